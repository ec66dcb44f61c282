/- Values that come up in the run of Heal. -/
import Derived.Test.YtkgmagigahefjaaGreatDoorEvOk
import Derived.Test.YtkgmagigahefjaaGreatDoorEvSb
import Derived.Test.YtkgmagigahefjaaGreatDoorEvX8
set_option maxRecDepth 100000
namespace Go.Ab
def aI (n : Nat) : AV := .c (.int .i64 (.ofNat n))
def aU (n : Nat) : AV := .c (.int .u64 (.ofNat n))
def aB (n : Nat) : AV := .c (.int .u8 (.ofNat n))
def aT : AV := .c (.bool true)
def aF : AV := .c (.bool false)
theorem ex_ok {t : TbT} (rows : List TRow) (hc : chkT t rows = true) (hr : AllR Go.Proofs.Tryz.prog GG0 rows) : EOk Go.Proofs.Tryz.prog { E1 with tb := tbT t } :=
  ⟨by kernel_rfl, te_ok, ft_ok, gp0, tbT_ok hc hr, mz_ok⟩
def s0 : AV := (.agg [(aI 1), (aI 2), (aI 1), (aI 1), (aI 3), (aI 2), (aI 1), (aI 1), (.isl [(.agg [(aI 0), (aI 20), (aI 2), (aI 2)])]), (aI 0), (aI 1), (.c (.slice .none 0 0)), (.c (.slice .none 0 0)), (.c (.slice .none 0 0)), (.c (.slice .none 0 0)), (.c (.slice .none 0 0)), (.c (.slice .none 0 0)), (aB 0), (aI 0), (aI 0), (aI 0), (aI 0), (aI 0), (aI 0), aF, aF, aF, aF, (aI 0), (aI 0), aF, (.c (.slice .none 0 0)), (aB 0), (aI 0), (aI 0), (aI 0), (aI 0), (aI 0), (aI 0), (aI 0), (aI 0), (aI 0), (aI 0), (aI 0), aF])
def s1 : AV := (.isl [(aB 168), (aB 0), (aB 0), (aB 0), (aB 242), (aB 240), (aB 186), (aB 254), (aB 1), (aB 0), (aB 0), (aB 0), (aB 0), (aB 0), (aB 0), (aB 0), (aB 2), (aB 0), (aB 0), (aB 0), (aB 0), (aB 0), (aB 0), (aB 0), (aB 1), (aB 0), (aB 0), (aB 0), (aB 0), (aB 0), (aB 0), (aB 0), (aB 1), (aB 0), (aB 0), (aB 0), (aB 0), (aB 0), (aB 0), (aB 0), (aB 3), (aB 0), (aB 0), (aB 0), (aB 0), (aB 0), (aB 0), (aB 0), (aB 2), (aB 0), (aB 0), (aB 0), (aB 0), (aB 0), (aB 0), (aB 0), (aB 1), (aB 0), (aB 0), (aB 0), (aB 0), (aB 0), (aB 0), (aB 0), (aB 1), (aB 0), (aB 0), (aB 0), (aB 0), (aB 0), (aB 0), (aB 0), (aB 1), (aB 0), (aB 0), (aB 0), (aB 0), (aB 0), (aB 0), (aB 0), (aB 0), (aB 0), (aB 0), (aB 0), (aB 0), (aB 0), (aB 0), (aB 0), (aB 20), (aB 0), (aB 0), (aB 0), (aB 0), (aB 0), (aB 0), (aB 0), (aB 2), (aB 0), (aB 0), (aB 0), (aB 0), (aB 0), (aB 0), (aB 0), (aB 2), (aB 0), (aB 0), (aB 0), (aB 0), (aB 0), (aB 0), (aB 0), (aB 0), (aB 0), (aB 0), (aB 0), (aB 0), (aB 0), (aB 0), (aB 0), (aB 1), (aB 0), (aB 0), (aB 0), (aB 0), (aB 0), (aB 0), (aB 0), (aB 0), (aB 0), (aB 0), (aB 0), (aB 0), (aB 0), (aB 0), (aB 0), (aB 0), (aB 0), (aB 0), (aB 0), (aB 0), (aB 0), (aB 0), (aB 0), (aB 0), (aB 0), (aB 0), (aB 0), (aB 0), (aB 0), (aB 0), (aB 0), (aB 0), (aB 0), (aB 0), (aB 0), (aB 0), (aB 0), (aB 0), (aB 0), (aB 0), (aB 0), (aB 0), (aB 0), (aB 0), (aB 0), (aB 0), (aB 0), (aB 0), (aB 0), (aB 0), (aB 0), (aB 0), (aB 0), (aB 0), (aB 0)])
def s2 : AV := (.isl [(aB 1), (aB 0), (aB 0), (aB 0), (aB 0), (aB 0), (aB 0), (aB 0), (aB 2), (aB 0), (aB 0), (aB 0), (aB 0), (aB 0), (aB 0), (aB 0), (aB 1), (aB 0), (aB 0), (aB 0), (aB 0), (aB 0), (aB 0), (aB 0), (aB 1), (aB 0), (aB 0), (aB 0), (aB 0), (aB 0), (aB 0), (aB 0), (aB 3), (aB 0), (aB 0), (aB 0), (aB 0), (aB 0), (aB 0), (aB 0), (aB 2), (aB 0), (aB 0), (aB 0), (aB 0), (aB 0), (aB 0), (aB 0), (aB 1), (aB 0), (aB 0), (aB 0), (aB 0), (aB 0), (aB 0), (aB 0), (aB 1), (aB 0), (aB 0), (aB 0), (aB 0), (aB 0), (aB 0), (aB 0), (aB 1), (aB 0), (aB 0), (aB 0), (aB 0), (aB 0), (aB 0), (aB 0), (aB 0), (aB 0), (aB 0), (aB 0), (aB 0), (aB 0), (aB 0), (aB 0), (aB 20), (aB 0), (aB 0), (aB 0), (aB 0), (aB 0), (aB 0), (aB 0), (aB 2), (aB 0), (aB 0), (aB 0), (aB 0), (aB 0), (aB 0), (aB 0), (aB 2), (aB 0), (aB 0), (aB 0), (aB 0), (aB 0), (aB 0), (aB 0), (aB 0), (aB 0), (aB 0), (aB 0), (aB 0), (aB 0), (aB 0), (aB 0), (aB 1), (aB 0), (aB 0), (aB 0), (aB 0), (aB 0), (aB 0), (aB 0), (aB 0), (aB 0), (aB 0), (aB 0), (aB 0), (aB 0), (aB 0), (aB 0), (aB 0), (aB 0), (aB 0), (aB 0), (aB 0), (aB 0), (aB 0), (aB 0), (aB 0), (aB 0), (aB 0), (aB 0), (aB 0), (aB 0), (aB 0), (aB 0), (aB 0), (aB 0), (aB 0), (aB 0), (aB 0), (aB 0), (aB 0), (aB 0), (aB 0), (aB 0), (aB 0), (aB 0), (aB 0), (aB 0), (aB 0), (aB 0), (aB 0), (aB 0), (aB 0), (aB 0), (aB 0), (aB 0), (aB 0), (aB 0)])
def s3 : AV := (.agg [(aI 2), (aI 1), (aI 1), (aI 3), (aI 2), (aI 1), (aI 1), (.isl [(.agg [(aI 0), (aI 20), (aI 2), (aI 2)])]), (aI 0), (aI 1), (.c (.slice .none 0 0)), (.c (.slice .none 0 0)), (.c (.slice .none 0 0)), (.c (.slice .none 0 0)), (.c (.slice .none 0 0)), (.c (.slice .none 0 0))])
def s4 : AV := (.isl [(aB 168), (aB 0), (aB 0), (aB 0), (aB 230), (aB 247), (aB 217), (aB 122), (aB 2), (aB 0), (aB 0), (aB 0), (aB 0), (aB 0), (aB 0), (aB 0), (aB 2), (aB 0), (aB 0), (aB 0), (aB 0), (aB 0), (aB 0), (aB 0), (aB 1), (aB 0), (aB 0), (aB 0), (aB 0), (aB 0), (aB 0), (aB 0), (aB 1), (aB 0), (aB 0), (aB 0), (aB 0), (aB 0), (aB 0), (aB 0), (aB 3), (aB 0), (aB 0), (aB 0), (aB 0), (aB 0), (aB 0), (aB 0), (aB 2), (aB 0), (aB 0), (aB 0), (aB 0), (aB 0), (aB 0), (aB 0), (aB 1), (aB 0), (aB 0), (aB 0), (aB 0), (aB 0), (aB 0), (aB 0), (aB 1), (aB 0), (aB 0), (aB 0), (aB 0), (aB 0), (aB 0), (aB 0), (aB 1), (aB 0), (aB 0), (aB 0), (aB 0), (aB 0), (aB 0), (aB 0), (aB 0), (aB 0), (aB 0), (aB 0), (aB 0), (aB 0), (aB 0), (aB 0), (aB 20), (aB 0), (aB 0), (aB 0), (aB 0), (aB 0), (aB 0), (aB 0), (aB 2), (aB 0), (aB 0), (aB 0), (aB 0), (aB 0), (aB 0), (aB 0), (aB 2), (aB 0), (aB 0), (aB 0), (aB 0), (aB 0), (aB 0), (aB 0), (aB 0), (aB 0), (aB 0), (aB 0), (aB 0), (aB 0), (aB 0), (aB 0), (aB 1), (aB 0), (aB 0), (aB 0), (aB 0), (aB 0), (aB 0), (aB 0), (aB 0), (aB 0), (aB 0), (aB 0), (aB 0), (aB 0), (aB 0), (aB 0), (aB 0), (aB 0), (aB 0), (aB 0), (aB 0), (aB 0), (aB 0), (aB 0), (aB 0), (aB 0), (aB 0), (aB 0), (aB 0), (aB 0), (aB 0), (aB 0), (aB 0), (aB 0), (aB 0), (aB 0), (aB 0), (aB 0), (aB 0), (aB 0), (aB 0), (aB 0), (aB 0), (aB 0), (aB 0), (aB 0), (aB 0), (aB 0), (aB 0), (aB 0), (aB 0), (aB 0), (aB 0), (aB 0), (aB 0), (aB 0)])
def s5 : AV := (.isl [(.agg [(aB 1), (aI 1), (.c (.slice .none 0 0))]), (.agg [(aB 2), (aI 1), s4]), (.agg [(aB 3), (aI 1), (.c (.slice .none 0 0))])])
def Heala176 : List AV := [s0]
def Healv176 : AV := (.tup [s1, (aI 0)])
def Heala180 : List AV := [s2]
def Healv180 : AV := (.tup [s0, (aI 0)])
def Heala182 : List AV := [s1]
def Healv182 : AV := (.tup [(.isl [s0]), (aI 176), (aI 0)])
def Heala202 : List AV := [(.agg [(aI 2), (aI 1), (aI 1)]), (.c (.slice .none 0 0)), (.c (.slice .none 0 0)), (.c (.slice .none 0 0))]
def Healv202 : AV := (.tup [(.isl [(aU 0)]), (.isl [(aU 0)]), (aI 0)])
def Heala203 : List AV := [(.agg [s1, (aI 176), (.c (.slice .none 0 0)), (aI 0)])]
def Healv203 : AV := (.tup [s3, (aI 0)])
def Heala372 : List AV := [(.agg [s1, (aI 176), (.c (.slice .none 0 0)), (aI 0)])]
def Healv372 : AV := (.tup [s5, (aI 0)])
def Heala374 : List AV := []
def Healv374 : AV := aT
def Heala375 : List AV := []
def Healv375 : AV := aT
end Go.Ab
