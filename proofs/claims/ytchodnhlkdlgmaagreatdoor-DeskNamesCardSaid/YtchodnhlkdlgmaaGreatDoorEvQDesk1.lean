/- Rows of the run, by the kernel. -/
import Derived.Test.YtchodnhlkdlgmaaGreatDoorEvVDesk
import Derived.KernelRfl
set_option maxRecDepth 1000000
namespace Go.Ab
def Deskt184 : TbT := .lf
theorem Deskp184 : Pur Go.Proofs.Tryz.prog GG0 22 Deska184 Deskv184 :=
  chk_run (E := { E1 with tb := tbT Deskt184 }) (fuel := 400000) (ex_ok [] (by kernel_rfl) trivial) (by kernel_rfl)
def Deskt191 : TbT := .lf
theorem Deskp191 : Pur Go.Proofs.Tryz.prog GG0 58 Deska191 Deskv191 :=
  chk_run (E := { E1 with tb := tbT Deskt191 }) (fuel := 400000) (ex_ok [] (by kernel_rfl) trivial) (by kernel_rfl)
def Deskt199 : TbT := .lf
theorem Deskp199 : Pur Go.Proofs.Tryz.prog GG0 96 Deska199 Deskv199 :=
  chk_run (E := { E1 with tb := tbT Deskt199 }) (fuel := 400000) (ex_ok [] (by kernel_rfl) trivial) (by kernel_rfl)
def Deskt204 : TbT := (.nd none .lf (.nd none (.nd none (.nd none (.nd none (.nd none .lf (.nd (some [(Deska199, Deskv199)]) .lf .lf)) .lf) .lf) .lf) (.nd none (.nd none .lf (.nd none .lf (.nd (some [(Deska191, Deskv191)]) .lf .lf))) .lf)))
theorem Deskp204 : Pur Go.Proofs.Tryz.prog GG0 31 Deska204 Deskv204 :=
  chk_run (E := { E1 with tb := tbT Deskt204 }) (fuel := 400000) (ex_ok [⟨96, Deska199, Deskv199⟩, ⟨58, Deska191, Deskv191⟩] (by kernel_rfl) ⟨Deskp199, ⟨Deskp191, trivial⟩⟩) (by kernel_rfl)
def Deskt207 : TbT := .lf
theorem Deskp207 : Pur Go.Proofs.Tryz.prog GG0 114 Deska207 Deskv207 :=
  chk_run (E := { E1 with tb := tbT Deskt207 }) (fuel := 400000) (ex_ok [] (by kernel_rfl) trivial) (by kernel_rfl)
def Deskt209 : TbT := (.nd none .lf (.nd none .lf (.nd none (.nd none (.nd none .lf (.nd none .lf (.nd (some [(Deska207, Deskv207)]) .lf .lf))) .lf) .lf)))
theorem Deskp209 : Pur Go.Proofs.Tryz.prog GG0 49 Deska209 Deskv209 :=
  chk_run (E := { E1 with tb := tbT Deskt209 }) (fuel := 400000) (ex_ok [⟨114, Deska207, Deskv207⟩] (by kernel_rfl) ⟨Deskp207, trivial⟩) (by kernel_rfl)
def Deskt211 : TbT := (.nd none (.nd none .lf (.nd none (.nd none (.nd none .lf (.nd (some [(Deska209, Deskv209)]) .lf .lf)) .lf) .lf)) (.nd none (.nd none (.nd none (.nd none (.nd none .lf (.nd (some [(Deska199, Deskv199)]) .lf .lf)) .lf) .lf) .lf) .lf))
theorem Deskp211 : Pur Go.Proofs.Tryz.prog GG0 5 Deska211 Deskv211 :=
  chk_run (E := { E1 with tb := tbT Deskt211 }) (fuel := 400000) (ex_ok [⟨96, Deska199, Deskv199⟩, ⟨49, Deska209, Deskv209⟩] (by kernel_rfl) ⟨Deskp199, ⟨Deskp209, trivial⟩⟩) (by kernel_rfl)
def Deskt214 : TbT := (.nd none (.nd none (.nd none (.nd none (.nd none (.nd (some [(Deska204, Deskv204)]) .lf .lf) .lf) .lf) .lf) (.nd (some [(Deska211, Deskv211)]) (.nd none (.nd none .lf (.nd (some [(Deska209, Deskv209)]) .lf .lf)) .lf) .lf)) .lf)
theorem Deskp214 : Pur Go.Proofs.Tryz.prog GG0 25 Deska214 Deskv214 :=
  chk_run (E := { E1 with tb := tbT Deskt214 }) (fuel := 400000) (ex_ok [⟨49, Deska209, Deskv209⟩, ⟨5, Deska211, Deskv211⟩, ⟨31, Deska204, Deskv204⟩] (by kernel_rfl) ⟨Deskp209, ⟨Deskp211, ⟨Deskp204, trivial⟩⟩⟩) (by kernel_rfl)
def Deskt232 : TbT := .lf
theorem Deskp232 : Pur Go.Proofs.Tryz.prog GG0 299 Deska232 Deskv232 :=
  chk_run (E := { E1 with tb := tbT Deskt232 }) (fuel := 400000) (ex_ok [] (by kernel_rfl) trivial) (by kernel_rfl)
def Deskt259 : TbT := .lf
theorem Deskp259 : Pur Go.Proofs.Tryz.prog GG0 261 Deska259 Deskv259 :=
  chk_run (E := { E1 with tb := tbT Deskt259 }) (fuel := 400000) (ex_ok [] (by kernel_rfl) trivial) (by kernel_rfl)
def Deskt261 : TbT := (.nd none (.nd none .lf (.nd none .lf (.nd none (.nd none (.nd none (.nd none (.nd none (.nd (some [(Deska259, Deskv259)]) .lf .lf) .lf) .lf) .lf) .lf) .lf))) .lf)
theorem Deskp261 : Pur Go.Proofs.Tryz.prog GG0 217 Deska261 Deskv261 :=
  chk_run (E := { E1 with tb := tbT Deskt261 }) (fuel := 400000) (ex_ok [⟨261, Deska259, Deskv259⟩] (by kernel_rfl) ⟨Deskp259, trivial⟩) (by kernel_rfl)
def Deskt271 : TbT := (.nd none (.nd none .lf (.nd none (.nd none .lf (.nd none .lf (.nd none (.nd none .lf (.nd (some [(Deska261, Deskv261)]) .lf .lf)) .lf))) .lf)) .lf)
theorem Deskp271 : Pur Go.Proofs.Tryz.prog GG0 320 Deska271 Deskv271 :=
  chk_run (E := { E1 with tb := tbT Deskt271 }) (fuel := 400000) (ex_ok [⟨217, Deska261, Deskv261⟩] (by kernel_rfl) ⟨Deskp261, trivial⟩) (by kernel_rfl)
def Deskt279 : TbT := .lf
theorem Deskp279 : Pur Go.Proofs.Tryz.prog GG0 261 Deska279 Deskv279 :=
  chk_run (E := { E1 with tb := tbT Deskt279 }) (fuel := 400000) (ex_ok [] (by kernel_rfl) trivial) (by kernel_rfl)
def Deskt281 : TbT := (.nd none (.nd none .lf (.nd none .lf (.nd none (.nd none (.nd none (.nd none (.nd none (.nd (some [(Deska279, Deskv279)]) .lf .lf) .lf) .lf) .lf) .lf) .lf))) .lf)
theorem Deskp281 : Pur Go.Proofs.Tryz.prog GG0 217 Deska281 Deskv281 :=
  chk_run (E := { E1 with tb := tbT Deskt281 }) (fuel := 400000) (ex_ok [⟨261, Deska279, Deskv279⟩] (by kernel_rfl) ⟨Deskp279, trivial⟩) (by kernel_rfl)
def Deskt286 : TbT := (.nd none (.nd none .lf (.nd none (.nd none .lf (.nd none .lf (.nd none (.nd none .lf (.nd (some [(Deska281, Deskv281)]) .lf .lf)) .lf))) .lf)) .lf)
theorem Deskp286 : Pur Go.Proofs.Tryz.prog GG0 320 Deska286 Deskv286 :=
  chk_run (E := { E1 with tb := tbT Deskt286 }) (fuel := 400000) (ex_ok [⟨217, Deska281, Deskv281⟩] (by kernel_rfl) ⟨Deskp281, trivial⟩) (by kernel_rfl)
def Deskt287 : TbT := (.nd none .lf (.nd none (.nd none (.nd none (.nd none (.nd none (.nd none .lf (.nd none (.nd (some [(Deska286, Deskv286), (Deska271, Deskv271)]) .lf .lf) .lf)) .lf) .lf) .lf) .lf) .lf))
theorem Deskp287 : Pur Go.Proofs.Tryz.prog GG0 287 Deska287 Deskv287 :=
  chk_run (E := { E1 with tb := tbT Deskt287 }) (fuel := 400000) (ex_ok [⟨320, Deska286, Deskv286⟩, ⟨320, Deska271, Deskv271⟩] (by kernel_rfl) ⟨Deskp286, ⟨Deskp271, trivial⟩⟩) (by kernel_rfl)
def Deskt297 : TbT := .lf
theorem Deskp297 : Pur Go.Proofs.Tryz.prog GG0 360 Deska297 Deskv297 :=
  chk_run (E := { E1 with tb := tbT Deskt297 }) (fuel := 400000) (ex_ok [] (by kernel_rfl) trivial) (by kernel_rfl)
def Deskt298 : TbT := (.nd none (.nd none .lf (.nd none (.nd none .lf (.nd none .lf (.nd none (.nd none .lf (.nd (some [(Deska281, Deskv281)]) .lf .lf)) .lf))) .lf)) (.nd none (.nd none (.nd none .lf (.nd none (.nd none .lf (.nd none .lf (.nd none (.nd (some [(Deska297, Deskv297)]) .lf .lf) .lf))) .lf)) .lf) .lf))
theorem Deskp298 : Pur Go.Proofs.Tryz.prog GG0 322 Deska298 Deskv298 :=
  chk_run (E := { E1 with tb := tbT Deskt298 }) (fuel := 400000) (ex_ok [⟨360, Deska297, Deskv297⟩, ⟨217, Deska281, Deskv281⟩] (by kernel_rfl) ⟨Deskp297, ⟨Deskp281, trivial⟩⟩) (by kernel_rfl)
def Deskt305 : TbT := .lf
theorem Deskp305 : Pur Go.Proofs.Tryz.prog GG0 360 Deska305 Deskv305 :=
  chk_run (E := { E1 with tb := tbT Deskt305 }) (fuel := 400000) (ex_ok [] (by kernel_rfl) trivial) (by kernel_rfl)
def Deskt306 : TbT := (.nd none (.nd none .lf (.nd none (.nd none .lf (.nd none .lf (.nd none (.nd none .lf (.nd (some [(Deska261, Deskv261)]) .lf .lf)) .lf))) .lf)) (.nd none (.nd none (.nd none .lf (.nd none (.nd none .lf (.nd none .lf (.nd none (.nd (some [(Deska305, Deskv305)]) .lf .lf) .lf))) .lf)) .lf) .lf))
theorem Deskp306 : Pur Go.Proofs.Tryz.prog GG0 322 Deska306 Deskv306 :=
  chk_run (E := { E1 with tb := tbT Deskt306 }) (fuel := 400000) (ex_ok [⟨360, Deska305, Deskv305⟩, ⟨217, Deska261, Deskv261⟩] (by kernel_rfl) ⟨Deskp305, ⟨Deskp261, trivial⟩⟩) (by kernel_rfl)
def Deskt307 : TbT := (.nd none (.nd none (.nd none (.nd none (.nd none (.nd none .lf (.nd none (.nd none (.nd (some [(Deska287, Deskv287)]) .lf .lf) .lf) .lf)) .lf) .lf) .lf) .lf) (.nd none .lf (.nd none (.nd none (.nd none (.nd none (.nd none .lf (.nd none (.nd (some [(Deska306, Deskv306), (Deska298, Deskv298)]) .lf .lf) .lf)) .lf) .lf) .lf) .lf)))
theorem Deskp307 : Pur Go.Proofs.Tryz.prog GG0 247 Deska307 Deskv307 :=
  chk_run (E := { E1 with tb := tbT Deskt307 }) (fuel := 400000) (ex_ok [⟨322, Deska306, Deskv306⟩, ⟨322, Deska298, Deskv298⟩, ⟨287, Deska287, Deskv287⟩] (by kernel_rfl) ⟨Deskp306, ⟨Deskp298, ⟨Deskp287, trivial⟩⟩⟩) (by kernel_rfl)
end Go.Ab
