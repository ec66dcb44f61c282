/- Rows of the run, by the kernel. -/
import Derived.Test.YtchodnhlkdlgmaaGreatDoorEvQDesk1
import Derived.Test.YtchodnhlkdlgmaaGreatDoorEvVDesk
import Derived.KernelRfl
set_option maxRecDepth 1000000
namespace Go.Ab
def Deskt308 : TbT := (.nd none (.nd none (.nd none (.nd none (.nd none (.nd (some [(Deska204, Deskv204)]) .lf .lf) .lf) (.nd none .lf (.nd none .lf (.nd none .lf (.nd (some [(Deska307, Deskv307)]) .lf .lf))))) (.nd none .lf (.nd none (.nd none .lf (.nd none (.nd none (.nd (some [(Deska232, Deskv232)]) .lf .lf) .lf) .lf)) .lf))) .lf) (.nd none (.nd none (.nd none (.nd none (.nd none .lf (.nd (some [(Deska199, Deskv199)]) .lf .lf)) .lf) .lf) .lf) .lf))
theorem Deskp308 : Pur Go.Proofs.Tryz.prog GG0 26 Deska308 Deskv308 :=
  chk_run (E := { E1 with tb := tbT Deskt308 }) (fuel := 400000) (ex_ok [⟨247, Deska307, Deskv307⟩, ⟨299, Deska232, Deskv232⟩, ⟨96, Deska199, Deskv199⟩, ⟨31, Deska204, Deskv204⟩] (by kernel_rfl) ⟨Deskp307, ⟨Deskp232, ⟨Deskp199, ⟨Deskp204, trivial⟩⟩⟩⟩) (by kernel_rfl)
def Deskt390 : TbT := .lf
theorem Deskp390 : Pur Go.Proofs.Tryz.prog GG0 22 Deska390 Deskv390 :=
  chk_run (E := { E1 with tb := tbT Deskt390 }) (fuel := 400000) (ex_ok [] (by kernel_rfl) trivial) (by kernel_rfl)
def Deskt396 : TbT := (.nd none (.nd none .lf (.nd none (.nd none (.nd none .lf (.nd (some [(Deska209, Deskv209)]) .lf .lf)) (.nd (some [(Deska214, Deskv214)]) .lf .lf)) .lf)) (.nd none .lf (.nd none (.nd none .lf (.nd (some [(Deska308, Deskv308)]) .lf .lf)) (.nd none (.nd (some [(Deska390, Deskv390)]) .lf .lf) .lf))))
theorem Deskp396 : Pur Go.Proofs.Tryz.prog GG0 29 Deska396 Deskv396 :=
  chk_run (E := { E1 with tb := tbT Deskt396 }) (fuel := 400000) (ex_ok [⟨25, Deska214, Deskv214⟩, ⟨26, Deska308, Deskv308⟩, ⟨22, Deska390, Deskv390⟩, ⟨49, Deska209, Deskv209⟩] (by kernel_rfl) ⟨Deskp214, ⟨Deskp308, ⟨Deskp390, ⟨Deskp209, trivial⟩⟩⟩⟩) (by kernel_rfl)
def Deskt401 : TbT := .lf
theorem Deskp401 : Pur Go.Proofs.Tryz.prog GG0 128 Deska401 Deskv401 :=
  chk_run (E := { E1 with tb := tbT Deskt401 }) (fuel := 400000) (ex_ok [] (by kernel_rfl) trivial) (by kernel_rfl)
def Deskt415 : TbT := .lf
theorem Deskp415 : Pur Go.Proofs.Tryz.prog GG0 144 Deska415 Deskv415 :=
  chk_run (E := { E1 with tb := tbT Deskt415 }) (fuel := 400000) (ex_ok [] (by kernel_rfl) trivial) (by kernel_rfl)
def Deskt417 : TbT := (.nd none .lf (.nd none (.nd none (.nd none (.nd none .lf (.nd none (.nd none (.nd (some [(Deska415, Deskv415)]) .lf .lf) .lf) .lf)) .lf) .lf) .lf))
theorem Deskp417 : Pur Go.Proofs.Tryz.prog GG0 97 Deska417 Deskv417 :=
  chk_run (E := { E1 with tb := tbT Deskt417 }) (fuel := 400000) (ex_ok [⟨144, Deska415, Deskv415⟩] (by kernel_rfl) ⟨Deskp415, trivial⟩) (by kernel_rfl)
def Deskt421 : TbT := (.nd none (.nd none .lf (.nd none (.nd none (.nd none (.nd none .lf (.nd (some [(Deska417, Deskv417)]) .lf .lf)) .lf) .lf) .lf)) (.nd none (.nd none (.nd none (.nd none (.nd none (.nd none (.nd (some [(Deska401, Deskv401)]) .lf .lf) .lf) (.nd (some [(Deska199, Deskv199)]) .lf .lf)) .lf) .lf) .lf) .lf))
theorem Deskp421 : Pur Go.Proofs.Tryz.prog GG0 31 Deska421 Deskv421 :=
  chk_run (E := { E1 with tb := tbT Deskt421 }) (fuel := 400000) (ex_ok [⟨97, Deska417, Deskv417⟩, ⟨96, Deska199, Deskv199⟩, ⟨128, Deska401, Deskv401⟩] (by kernel_rfl) ⟨Deskp417, ⟨Deskp199, ⟨Deskp401, trivial⟩⟩⟩) (by kernel_rfl)
def Deskt426 : TbT := .lf
theorem Deskp426 : Pur Go.Proofs.Tryz.prog GG0 114 Deska426 Deskv426 :=
  chk_run (E := { E1 with tb := tbT Deskt426 }) (fuel := 400000) (ex_ok [] (by kernel_rfl) trivial) (by kernel_rfl)
def Deskt428 : TbT := (.nd none .lf (.nd none .lf (.nd none (.nd none (.nd none .lf (.nd none .lf (.nd (some [(Deska426, Deskv426), (Deska207, Deskv207)]) .lf .lf))) .lf) .lf)))
theorem Deskp428 : Pur Go.Proofs.Tryz.prog GG0 49 Deska428 Deskv428 :=
  chk_run (E := { E1 with tb := tbT Deskt428 }) (fuel := 400000) (ex_ok [⟨114, Deska426, Deskv426⟩, ⟨114, Deska207, Deskv207⟩] (by kernel_rfl) ⟨Deskp426, ⟨Deskp207, trivial⟩⟩) (by kernel_rfl)
def Deskt429 : TbT := (.nd none (.nd none (.nd none (.nd none .lf (.nd none .lf (.nd none .lf (.nd none .lf (.nd (some [(Deska307, Deskv307)]) .lf .lf))))) (.nd none .lf (.nd none (.nd none .lf (.nd none (.nd none (.nd (some [(Deska232, Deskv232)]) .lf .lf) .lf) .lf)) .lf))) (.nd none (.nd none (.nd none .lf (.nd (some [(Deska428, Deskv428)]) .lf .lf)) .lf) .lf)) (.nd none (.nd none (.nd none (.nd none (.nd none .lf (.nd (some [(Deska199, Deskv199)]) .lf .lf)) .lf) .lf) .lf) .lf))
theorem Deskp429 : Pur Go.Proofs.Tryz.prog GG0 5 Deska429 Deskv429 :=
  chk_run (E := { E1 with tb := tbT Deskt429 }) (fuel := 400000) (ex_ok [⟨247, Deska307, Deskv307⟩, ⟨299, Deska232, Deskv232⟩, ⟨96, Deska199, Deskv199⟩, ⟨49, Deska428, Deskv428⟩] (by kernel_rfl) ⟨Deskp307, ⟨Deskp232, ⟨Deskp199, ⟨Deskp428, trivial⟩⟩⟩⟩) (by kernel_rfl)
def Deskt432 : TbT := (.nd none (.nd none (.nd none (.nd none (.nd none (.nd (some [(Deska421, Deskv421)]) .lf .lf) .lf) .lf) .lf) (.nd (some [(Deska429, Deskv429)]) (.nd none (.nd none .lf (.nd (some [(Deska428, Deskv428)]) .lf .lf)) .lf) .lf)) .lf)
theorem Deskp432 : Pur Go.Proofs.Tryz.prog GG0 25 Deska432 Deskv432 :=
  chk_run (E := { E1 with tb := tbT Deskt432 }) (fuel := 400000) (ex_ok [⟨49, Deska428, Deskv428⟩, ⟨5, Deska429, Deskv429⟩, ⟨31, Deska421, Deskv421⟩] (by kernel_rfl) ⟨Deskp428, ⟨Deskp429, ⟨Deskp421, trivial⟩⟩⟩) (by kernel_rfl)
def Deskt434 : TbT := (.nd none (.nd none .lf (.nd none (.nd none (.nd none .lf (.nd (some [(Deska209, Deskv209)]) .lf .lf)) (.nd (some [(Deska432, Deskv432), (Deska214, Deskv214)]) .lf .lf)) (.nd none .lf (.nd (some [(Deska396, Deskv396)]) .lf .lf)))) (.nd none .lf (.nd none (.nd none .lf (.nd (some [(Deska308, Deskv308)]) .lf .lf)) (.nd none (.nd (some [(Deska390, Deskv390), (Deska184, Deskv184)]) .lf .lf) .lf))))
theorem Deskp434 : Pur Go.Proofs.Tryz.prog GG0 4 Deska434 Deskv434 :=
  chk_run (E := { E1 with tb := tbT Deskt434 }) (fuel := 400000) (ex_ok [⟨29, Deska396, Deskv396⟩, ⟨25, Deska432, Deskv432⟩, ⟨25, Deska214, Deskv214⟩, ⟨26, Deska308, Deskv308⟩, ⟨22, Deska390, Deskv390⟩, ⟨49, Deska209, Deskv209⟩, ⟨22, Deska184, Deskv184⟩] (by kernel_rfl) ⟨Deskp396, ⟨Deskp432, ⟨Deskp214, ⟨Deskp308, ⟨Deskp390, ⟨Deskp209, ⟨Deskp184, trivial⟩⟩⟩⟩⟩⟩⟩) (by kernel_rfl)
theorem law_deskNames : Pur Go.Proofs.Tryz.prog GG0 4 [] (.c (.bool true)) := Deskp434
end Go.Ab
