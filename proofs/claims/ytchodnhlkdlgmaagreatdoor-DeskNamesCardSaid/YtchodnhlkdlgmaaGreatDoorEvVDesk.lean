/- Values that come up in the run of Desk. -/
import Derived.Test.YtchodnhlkdlgmaaGreatDoorEvOk
import Derived.Test.YtchodnhlkdlgmaaGreatDoorEvSb
import Derived.Test.YtchodnhlkdlgmaaGreatDoorEvX8
set_option maxRecDepth 100000
namespace Go.Ab
def aI (n : Nat) : AV := .c (.int .i64 (.ofNat n))
def aU (n : Nat) : AV := .c (.int .u64 (.ofNat n))
def aB (n : Nat) : AV := .c (.int .u8 (.ofNat n))
def aT : AV := .c (.bool true)
def aF : AV := .c (.bool false)
theorem ex_ok {t : TbT} (rows : List TRow) (hc : chkT t rows = true) (hr : AllR Go.Proofs.Tryz.prog GG0 rows) : EOk Go.Proofs.Tryz.prog { E1 with tb := tbT t } :=
  ⟨by kernel_rfl, te_ok, ft_ok, gp0, tbT_ok hc hr, mz_ok⟩
def s0 : AV := (.agg [(aI 1), (aI 2), (aI 1), (aI 1), (aI 3), (aI 2), (aI 1), (aI 1), (.isl [(.agg [(aI 0), (aI 20), (aI 2), (aI 2)])]), (aI 0), (aI 1), (.c (.slice .none 0 0)), (.c (.slice .none 0 0)), (.c (.slice .none 0 0)), (.c (.slice .none 0 0)), (.c (.slice .none 0 0)), (.c (.slice .none 0 0)), (aB 0), (aI 0), (aI 0), (aI 0), (aI 0), (aI 0), (aI 0), aF, aF, aF, aF, (aI 0), (aI 0), aF, (.c (.slice .none 0 0)), (aB 0), (aI 0), (aI 0), (aI 0), (aI 0), (aI 0), (aI 0), (aI 0), (aI 0), (aI 0), (aI 0), (aI 0), aF])
def s1 : AV := (.isl [(aB 168), (aB 0), (aB 0), (aB 0), (aB 242), (aB 240), (aB 186), (aB 254), (aB 1), (aB 0), (aB 0), (aB 0), (aB 0), (aB 0), (aB 0), (aB 0), (aB 2), (aB 0), (aB 0), (aB 0), (aB 0), (aB 0), (aB 0), (aB 0), (aB 1), (aB 0), (aB 0), (aB 0), (aB 0), (aB 0), (aB 0), (aB 0), (aB 1), (aB 0), (aB 0), (aB 0), (aB 0), (aB 0), (aB 0), (aB 0), (aB 3), (aB 0), (aB 0), (aB 0), (aB 0), (aB 0), (aB 0), (aB 0), (aB 2), (aB 0), (aB 0), (aB 0), (aB 0), (aB 0), (aB 0), (aB 0), (aB 1), (aB 0), (aB 0), (aB 0), (aB 0), (aB 0), (aB 0), (aB 0), (aB 1), (aB 0), (aB 0), (aB 0), (aB 0), (aB 0), (aB 0), (aB 0), (aB 1), (aB 0), (aB 0), (aB 0), (aB 0), (aB 0), (aB 0), (aB 0), (aB 0), (aB 0), (aB 0), (aB 0), (aB 0), (aB 0), (aB 0), (aB 0), (aB 20), (aB 0), (aB 0), (aB 0), (aB 0), (aB 0), (aB 0), (aB 0), (aB 2), (aB 0), (aB 0), (aB 0), (aB 0), (aB 0), (aB 0), (aB 0), (aB 2), (aB 0), (aB 0), (aB 0), (aB 0), (aB 0), (aB 0), (aB 0), (aB 0), (aB 0), (aB 0), (aB 0), (aB 0), (aB 0), (aB 0), (aB 0), (aB 1), (aB 0), (aB 0), (aB 0), (aB 0), (aB 0), (aB 0), (aB 0), (aB 0), (aB 0), (aB 0), (aB 0), (aB 0), (aB 0), (aB 0), (aB 0), (aB 0), (aB 0), (aB 0), (aB 0), (aB 0), (aB 0), (aB 0), (aB 0), (aB 0), (aB 0), (aB 0), (aB 0), (aB 0), (aB 0), (aB 0), (aB 0), (aB 0), (aB 0), (aB 0), (aB 0), (aB 0), (aB 0), (aB 0), (aB 0), (aB 0), (aB 0), (aB 0), (aB 0), (aB 0), (aB 0), (aB 0), (aB 0), (aB 0), (aB 0), (aB 0), (aB 0), (aB 0), (aB 0), (aB 0), (aB 0)])
def s2 : AV := (.agg [(aI 2), (aI 1), (aI 1), (aI 3), (aI 2), (aI 1), (aI 1), (.isl [(.agg [(aI 0), (aI 20), (aI 2), (aI 2)])]), (aI 0), (aI 1), (.c (.slice .none 0 0)), (.c (.slice .none 0 0)), (.c (.slice .none 0 0)), (.c (.slice .none 0 0)), (.c (.slice .none 0 0)), (.c (.slice .none 0 0))])
def s3 : AV := (.isl [(aB 1), (aB 0), (aB 0), (aB 0), (aB 0), (aB 0), (aB 0), (aB 0), (aB 2), (aB 0), (aB 0), (aB 0), (aB 0), (aB 0), (aB 0), (aB 0), (aB 1), (aB 0), (aB 0), (aB 0), (aB 0), (aB 0), (aB 0), (aB 0), (aB 1), (aB 0), (aB 0), (aB 0), (aB 0), (aB 0), (aB 0), (aB 0), (aB 3), (aB 0), (aB 0), (aB 0), (aB 0), (aB 0), (aB 0), (aB 0), (aB 2), (aB 0), (aB 0), (aB 0), (aB 0), (aB 0), (aB 0), (aB 0), (aB 1), (aB 0), (aB 0), (aB 0), (aB 0), (aB 0), (aB 0), (aB 0), (aB 1), (aB 0), (aB 0), (aB 0), (aB 0), (aB 0), (aB 0), (aB 0), (aB 1), (aB 0), (aB 0), (aB 0), (aB 0), (aB 0), (aB 0), (aB 0), (aB 0), (aB 0), (aB 0), (aB 0), (aB 0), (aB 0), (aB 0), (aB 0), (aB 20), (aB 0), (aB 0), (aB 0), (aB 0), (aB 0), (aB 0), (aB 0), (aB 2), (aB 0), (aB 0), (aB 0), (aB 0), (aB 0), (aB 0), (aB 0), (aB 2), (aB 0), (aB 0), (aB 0), (aB 0), (aB 0), (aB 0), (aB 0), (aB 0), (aB 0), (aB 0), (aB 0), (aB 0), (aB 0), (aB 0), (aB 0), (aB 1), (aB 0), (aB 0), (aB 0), (aB 0), (aB 0), (aB 0), (aB 0), (aB 0), (aB 0), (aB 0), (aB 0), (aB 0), (aB 0), (aB 0), (aB 0), (aB 0), (aB 0), (aB 0), (aB 0), (aB 0), (aB 0), (aB 0), (aB 0), (aB 0), (aB 0), (aB 0), (aB 0), (aB 0), (aB 0), (aB 0), (aB 0), (aB 0), (aB 0), (aB 0), (aB 0), (aB 0), (aB 0), (aB 0), (aB 0), (aB 0), (aB 0), (aB 0), (aB 0), (aB 0), (aB 0), (aB 0), (aB 0), (aB 0), (aB 0), (aB 0), (aB 0), (aB 0), (aB 0), (aB 0), (aB 0)])
def s4 : AV := (.agg [(aI 2), (aI 1), (aI 1), (aI 3), (aI 2), (aI 1), (aI 1), (.isl [(.agg [(aI 0), (aI 20), (aI 2), (aI 2)])]), (aI 0), (aI 1), (.c (.slice .none 0 0)), (.c (.slice .none 0 0)), (.c (.slice .none 0 0)), (.c (.slice .none 0 0)), (.c (.slice .none 0 0)), (.c (.slice .none 0 0)), s1, (aI 176), (.c (.slice .none 0 0)), (aI 0)])
def s5 : AV := (.isl [(.c (.slice .none 0 0)), (.c (.slice .none 0 0)), (.c (.slice .none 0 0)), (.c (.slice .none 0 0)), (.c (.slice .none 0 0)), (.c (.slice .none 0 0))])
def s6 : AV := (.isl [(.agg [(aI 0), (aI 0), (aI 0), (aI 1), (aI 1), (aI 1), aF, aF, aF]), (.agg [(aI 1), (aI 0), (aI 0), (aI 1), (aI 1), (aI 1), aF, aF, aF])])
def s7 : AV := (.agg [(aB 1), (aI 0), (aI 1), (aI 0), (aI 1), (aI 1), (aI 1), aF, aF, aF, aF, (aI 5), (aI 0), aF, (.c (.slice .none 0 0)), (aB 0), (aI 0), (aI 0), (aI 0), (aI 0), (aI 0), (aI 0), (aI 0), (aI 0), (aI 0), (aI 0), (aI 0), aF])
def s8 : AV := (.agg [(aI 1), (aI 1), (aI 0), (aI 1), (aI 1), (aI 1), aF, aF, aF, aF, (aI 5), (aI 0), aF, (.c (.slice .none 0 0)), (aB 2), (aI 0)])
def s9 : AV := (.agg [(aI 2), (aI 1), (aI 1), (aI 3), (aI 2), (aI 1), (aI 1), (.isl [(.agg [(aI 0), (aI 20), (aI 2), (aI 2)])]), (aI 0), (aI 2), (.isl [s8]), (.isl [(.agg [(aI 1), (aI 0), (aI 0), (aI 0), (aI 1), (aI 1), (aI 1), aF, aF, aF, (aB 1), (aI 1), (aI 0)])]), (.c (.slice .none 0 0)), (.c (.slice .none 0 0)), (.c (.slice .none 0 0)), (.c (.slice .none 0 0))])
def s10 : AV := (.agg [(aI 0), (aI 1), (.isl [(aI 1)]), (aI 0), (aI 0), (aI 0), (aI 0), (aI 0), (aI 0), (aI 0), (aI 0), aF, aF, aF])
def s11 : AV := (.agg [(aI 0), (aI 0), (aI 0), (aI 0), (aI 0), (aI 0), (aI 0), (aI 0), (.c (.slice .none 0 0)), (aI 0), (aI 0), (.c (.slice .none 0 0)), (.c (.slice .none 0 0)), (.c (.slice .none 0 0)), (.c (.slice .none 0 0)), (.c (.slice .none 0 0)), (.c (.slice .none 0 0)), (aB 1), (aI 0), (aI 1), (aI 0), (aI 1), (aI 1), (aI 1), aF, aF, aF, aF, (aI 5), (aI 0), aF, (.c (.slice .none 0 0)), (aB 0), (aI 0), (aI 0), (aI 0), (aI 0), (aI 0), (aI 0), (aI 0), (aI 0), (aI 0), (aI 0), (aI 0), aF])
def s12 : AV := (.isl [(aB 78), (aB 0), (aB 0), (aB 0), (aB 176), (aB 129), (aB 61), (aB 230), (aB 0), (aB 0), (aB 0), (aB 0), (aB 0), (aB 0), (aB 0), (aB 0), (aB 1), (aB 1), (aB 0), (aB 0), (aB 0), (aB 0), (aB 0), (aB 0), (aB 0), (aB 0), (aB 0), (aB 0), (aB 0), (aB 0), (aB 0), (aB 0), (aB 0), (aB 1), (aB 0), (aB 0), (aB 0), (aB 0), (aB 0), (aB 0), (aB 0), (aB 1), (aB 0), (aB 0), (aB 0), (aB 0), (aB 0), (aB 0), (aB 0), (aB 1), (aB 0), (aB 0), (aB 0), (aB 0), (aB 0), (aB 0), (aB 0), (aB 0), (aB 0), (aB 0), (aB 0), (aB 5), (aB 0), (aB 0), (aB 0), (aB 0), (aB 0), (aB 0), (aB 0), (aB 0), (aB 0), (aB 0), (aB 0), (aB 0), (aB 0), (aB 0), (aB 0), (aB 0), (aB 0), (aB 0), (aB 0), (aB 0), (aB 0), (aB 0), (aB 0), (aB 0)])
def s13 : AV := (.isl [(aB 168), (aB 0), (aB 0), (aB 0), (aB 242), (aB 240), (aB 186), (aB 254), (aB 1), (aB 0), (aB 0), (aB 0), (aB 0), (aB 0), (aB 0), (aB 0), (aB 2), (aB 0), (aB 0), (aB 0), (aB 0), (aB 0), (aB 0), (aB 0), (aB 1), (aB 0), (aB 0), (aB 0), (aB 0), (aB 0), (aB 0), (aB 0), (aB 1), (aB 0), (aB 0), (aB 0), (aB 0), (aB 0), (aB 0), (aB 0), (aB 3), (aB 0), (aB 0), (aB 0), (aB 0), (aB 0), (aB 0), (aB 0), (aB 2), (aB 0), (aB 0), (aB 0), (aB 0), (aB 0), (aB 0), (aB 0), (aB 1), (aB 0), (aB 0), (aB 0), (aB 0), (aB 0), (aB 0), (aB 0), (aB 1), (aB 0), (aB 0), (aB 0), (aB 0), (aB 0), (aB 0), (aB 0), (aB 1), (aB 0), (aB 0), (aB 0), (aB 0), (aB 0), (aB 0), (aB 0), (aB 0), (aB 0), (aB 0), (aB 0), (aB 0), (aB 0), (aB 0), (aB 0), (aB 20), (aB 0), (aB 0), (aB 0), (aB 0), (aB 0), (aB 0), (aB 0), (aB 2), (aB 0), (aB 0), (aB 0), (aB 0), (aB 0), (aB 0), (aB 0), (aB 2), (aB 0), (aB 0), (aB 0), (aB 0), (aB 0), (aB 0), (aB 0), (aB 0), (aB 0), (aB 0), (aB 0), (aB 0), (aB 0), (aB 0), (aB 0), (aB 1), (aB 0), (aB 0), (aB 0), (aB 0), (aB 0), (aB 0), (aB 0), (aB 0), (aB 0), (aB 0), (aB 0), (aB 0), (aB 0), (aB 0), (aB 0), (aB 0), (aB 0), (aB 0), (aB 0), (aB 0), (aB 0), (aB 0), (aB 0), (aB 0), (aB 0), (aB 0), (aB 0), (aB 0), (aB 0), (aB 0), (aB 0), (aB 0), (aB 0), (aB 0), (aB 0), (aB 0), (aB 0), (aB 0), (aB 0), (aB 0), (aB 0), (aB 0), (aB 0), (aB 0), (aB 0), (aB 0), (aB 0), (aB 0), (aB 0), (aB 0), (aB 0), (aB 0), (aB 0), (aB 0), (aB 0), (aB 78), (aB 0), (aB 0), (aB 0), (aB 176), (aB 129), (aB 61), (aB 230), (aB 0), (aB 0), (aB 0), (aB 0), (aB 0), (aB 0), (aB 0), (aB 0), (aB 1), (aB 1), (aB 0), (aB 0), (aB 0), (aB 0), (aB 0), (aB 0), (aB 0), (aB 0), (aB 0), (aB 0), (aB 0), (aB 0), (aB 0), (aB 0), (aB 0), (aB 1), (aB 0), (aB 0), (aB 0), (aB 0), (aB 0), (aB 0), (aB 0), (aB 1), (aB 0), (aB 0), (aB 0), (aB 0), (aB 0), (aB 0), (aB 0), (aB 1), (aB 0), (aB 0), (aB 0), (aB 0), (aB 0), (aB 0), (aB 0), (aB 0), (aB 0), (aB 0), (aB 0), (aB 5), (aB 0), (aB 0), (aB 0), (aB 0), (aB 0), (aB 0), (aB 0), (aB 0), (aB 0), (aB 0), (aB 0), (aB 0), (aB 0), (aB 0), (aB 0), (aB 0), (aB 0), (aB 0), (aB 0), (aB 0), (aB 0), (aB 0), (aB 0), (aB 0)])
def s14 : AV := (.agg [(aI 2), (aI 1), (aI 1), (aI 3), (aI 2), (aI 1), (aI 1), (.isl [(.agg [(aI 0), (aI 20), (aI 2), (aI 2)])]), (aI 0), (aI 2), (.isl [s8]), (.isl [(.agg [(aI 1), (aI 0), (aI 0), (aI 0), (aI 1), (aI 1), (aI 1), aF, aF, aF, (aB 1), (aI 1), (aI 0)])]), (.c (.slice .none 0 0)), (.c (.slice .none 0 0)), (.c (.slice .none 0 0)), (.c (.slice .none 0 0)), s13, (aI 262), (.c (.slice .none 0 0)), (aI 0)])
def s15 : AV := (.agg [(aI 2), (aI 1), (aI 1), (aI 3), (aI 2), (aI 1), (aI 1), (.isl [(.agg [(aI 0), (aI 20), (aI 2), (aI 2)])])])
def s16 : AV := (.isl [(aB 0), (aB 0), (aB 0), (aB 0), (aB 0), (aB 0), (aB 0), (aB 0), (aB 1), (aB 1), (aB 0), (aB 0), (aB 0), (aB 0), (aB 0), (aB 0), (aB 0), (aB 0), (aB 0), (aB 0), (aB 0), (aB 0), (aB 0), (aB 0), (aB 0), (aB 1), (aB 0), (aB 0), (aB 0), (aB 0), (aB 0), (aB 0), (aB 0), (aB 1), (aB 0), (aB 0), (aB 0), (aB 0), (aB 0), (aB 0), (aB 0), (aB 1), (aB 0), (aB 0), (aB 0), (aB 0), (aB 0), (aB 0), (aB 0), (aB 0), (aB 0), (aB 0), (aB 0), (aB 5), (aB 0), (aB 0), (aB 0), (aB 0), (aB 0), (aB 0), (aB 0), (aB 0), (aB 0), (aB 0), (aB 0), (aB 0), (aB 0), (aB 0), (aB 0), (aB 0), (aB 0), (aB 0), (aB 0), (aB 0), (aB 0), (aB 0), (aB 0), (aB 0)])
def Deska184 : List AV := [s0]
def Deskv184 : AV := (.tup [s1, (aI 0)])
def Deska191 : List AV := [s2]
def Deskv191 : AV := aT
def Deska199 : List AV := [(.agg [(aI 2), (aI 1), (aI 1)]), (.c (.slice .none 0 0)), (.c (.slice .none 0 0)), (.c (.slice .none 0 0))]
def Deskv199 : AV := (.tup [(.isl [(aU 0)]), (.isl [(aU 0)]), (aI 0)])
def Deska204 : List AV := [s2]
def Deskv204 : AV := (aI 0)
def Deska207 : List AV := [s3]
def Deskv207 : AV := (.tup [s0, (aI 0)])
def Deska209 : List AV := [s1]
def Deskv209 : AV := (.tup [(.isl [s0]), (aI 176), (aI 0)])
def Deska211 : List AV := [(.agg [s1, (aI 176), (.c (.slice .none 0 0)), (aI 0)])]
def Deskv211 : AV := (.tup [s2, (aI 0)])
def Deska214 : List AV := [s4]
def Deskv214 : AV := (aI 0)
def Deska232 : List AV := [(.agg [(aI 2), (aI 1), (aI 1), (.isl [(.c (.slice .none 0 0)), (.c (.slice .none 0 0))]), s5]), (.agg [(aI 0), (aI 10)])]
def Deskv232 : AV := (.tup [(.isl [(aU 0)]), (.isl [(aU 0)]), (aI 0)])
def Deska259 : List AV := [(.agg [(aI 2), (aI 1), (aI 1)]), (.agg [(aI 0), (aI 0), (aI 0), (aI 1), (aI 1), (aI 1), aF, aF, aF])]
def Deskv259 : AV := (.tup [(.isl [(aI 0)]), (.c (.slice .none 0 0))])
def Deska261 : List AV := [(.agg [(aI 2), (aI 1), (aI 1)]), (.agg [(aI 0), (aI 0), (aI 0), (aI 1), (aI 1), (aI 1), aF, aF, aF])]
def Deskv261 : AV := (.tup [(.isl [(aU 1)]), (.isl [(aU 0)]), (aI 0)])
def Deska271 : List AV := [(.agg [(aI 2), (aI 1), (aI 1)]), (.agg [(aI 0), (aI 0), (aI 0), (aI 1), (aI 1), (aI 1), aF, aF, aF]), (.isl [(aU 0)]), (.isl [(aU 0)])]
def Deskv271 : AV := (.tup [aT, (aI 0)])
def Deska279 : List AV := [(.agg [(aI 2), (aI 1), (aI 1)]), (.agg [(aI 1), (aI 0), (aI 0), (aI 1), (aI 1), (aI 1), aF, aF, aF])]
def Deskv279 : AV := (.tup [(.isl [(aI 1)]), (.c (.slice .none 0 0))])
def Deska281 : List AV := [(.agg [(aI 2), (aI 1), (aI 1)]), (.agg [(aI 1), (aI 0), (aI 0), (aI 1), (aI 1), (aI 1), aF, aF, aF])]
def Deskv281 : AV := (.tup [(.isl [(aU 2)]), (.isl [(aU 0)]), (aI 0)])
def Deska286 : List AV := [(.agg [(aI 2), (aI 1), (aI 1)]), (.agg [(aI 1), (aI 0), (aI 0), (aI 1), (aI 1), (aI 1), aF, aF, aF]), (.isl [(aU 0)]), (.isl [(aU 0)])]
def Deskv286 : AV := (.tup [aT, (aI 0)])
def Deska287 : List AV := [(.agg [(aI 2), (aI 1), (aI 1)]), (.agg [(aI 1), (aI 1), (aI 1), aF, aF, aF, aF]), (.isl [(aU 0)]), (.isl [(aU 0)])]
def Deskv287 : AV := (.tup [s6, (aI 0)])
def Deska297 : List AV := [(.agg [(aI 2), (aI 1), (aI 1)]), (aI 2), (.isl [(aU 2)]), (.isl [(aU 1)])]
def Deskv297 : AV := (aI 2)
def Deska298 : List AV := [(.agg [(aI 2), (aI 1), (aI 1)]), (.agg [(aI 1), (aI 0), (aI 0), (aI 1), (aI 1), (aI 1), aF, aF, aF]), (.isl [(aU 0)])]
def Deskv298 : AV := (.tup [(aI 4), (aI 0)])
def Deska305 : List AV := [(.agg [(aI 2), (aI 1), (aI 1)]), (aI 2), (.isl [(aU 1)]), (.isl [(aU 2)])]
def Deskv305 : AV := (aI 2)
def Deska306 : List AV := [(.agg [(aI 2), (aI 1), (aI 1)]), (.agg [(aI 0), (aI 0), (aI 0), (aI 1), (aI 1), (aI 1), aF, aF, aF]), (.isl [(aU 0)])]
def Deskv306 : AV := (.tup [(aI 4), (aI 0)])
def Deska307 : List AV := [(.agg [(aI 2), (aI 1), (aI 1)]), (.agg [(aI 1), (aI 1), (aI 1), aF, aF, aF, aF]), (.isl [(aU 0)]), (.isl [(aU 0)])]
def Deskv307 : AV := (.tup [(.agg [(aI 0), (aI 0), (aI 0), (aI 1), (aI 1), (aI 1), aF, aF, aF]), (aI 0)])
def Deska308 : List AV := [s2, s7]
def Deskv308 : AV := (.tup [s9, s10])
def Deska390 : List AV := [s11]
def Deskv390 : AV := (.tup [s12, (aI 0)])
def Deska396 : List AV := [s4, s7]
def Deskv396 : AV := (.tup [s14, s10])
def Deska401 : List AV := [s15, (.isl [s8])]
def Deskv401 : AV := (aI 0)
def Deska415 : List AV := [(.agg [(aI 2), (aI 1), (aI 1)]), (.agg [(aI 1), (aI 1), (aI 1), aF, aF, aF, aF]), (.agg [(aI 0), (aI 0), (aI 0), (aI 1), (aI 1), (aI 1), aF, aF, aF])]
def Deskv415 : AV := (.tup [aT, (aI 0)])
def Deska417 : List AV := [s9, (.agg [(aI 1), (aI 0), (aI 0), (aI 0), (aI 1), (aI 1), (aI 1), aF, aF, aF, (aB 1), (aI 1), (aI 0)])]
def Deskv417 : AV := aT
def Deska421 : List AV := [s9]
def Deskv421 : AV := (aI 0)
def Deska426 : List AV := [s16]
def Deskv426 : AV := (.tup [s11, (aI 0)])
def Deska428 : List AV := [s13]
def Deskv428 : AV := (.tup [(.isl [s0, s11]), (aI 262), (aI 0)])
def Deska429 : List AV := [(.agg [s13, (aI 262), (.c (.slice .none 0 0)), (aI 0)])]
def Deskv429 : AV := (.tup [s9, (aI 0)])
def Deska432 : List AV := [s14]
def Deskv432 : AV := (aI 0)
def Deska434 : List AV := []
def Deskv434 : AV := aT
end Go.Ab
