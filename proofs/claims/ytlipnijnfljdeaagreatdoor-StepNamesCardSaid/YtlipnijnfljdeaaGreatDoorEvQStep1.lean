/- Rows of the run, by the kernel. -/
import Derived.Test.YtlipnijnfljdeaaGreatDoorEvVStep
import Derived.KernelRfl
set_option maxRecDepth 1000000
namespace Go.Ab
def Stept17 : TbT := .lf
theorem Stepp17 : Pur Go.Proofs.Tryz.prog GG0 33 Stepa17 Stepv17 :=
  chk_run (E := { E1 with tb := tbT Stept17 }) (fuel := 400000) (ex_ok [] (by kernel_rfl) trivial) (by kernel_rfl)
def Stept25 : TbT := .lf
theorem Stepp25 : Pur Go.Proofs.Tryz.prog GG0 100 Stepa25 Stepv25 :=
  chk_run (E := { E1 with tb := tbT Stept25 }) (fuel := 400000) (ex_ok [] (by kernel_rfl) trivial) (by kernel_rfl)
def Stept30 : TbT := (.nd none (.nd none .lf (.nd none (.nd none (.nd none (.nd (some [(Stepa17, Stepv17)]) .lf .lf) .lf) .lf) .lf)) (.nd none (.nd none .lf (.nd none (.nd none (.nd none .lf (.nd (some [(Stepa25, Stepv25)]) .lf .lf)) .lf) .lf)) .lf))
theorem Stepp30 : Pur Go.Proofs.Tryz.prog GG0 16 Stepa30 Stepv30 :=
  chk_run (E := { E1 with tb := tbT Stept30 }) (fuel := 400000) (ex_ok [⟨100, Stepa25, Stepv25⟩, ⟨33, Stepa17, Stepv17⟩] (by kernel_rfl) ⟨Stepp25, ⟨Stepp17, trivial⟩⟩) (by kernel_rfl)
def Stept48 : TbT := .lf
theorem Stepp48 : Pur Go.Proofs.Tryz.prog GG0 206 Stepa48 Stepv48 :=
  chk_run (E := { E1 with tb := tbT Stept48 }) (fuel := 400000) (ex_ok [] (by kernel_rfl) trivial) (by kernel_rfl)
def Stept75 : TbT := .lf
theorem Stepp75 : Pur Go.Proofs.Tryz.prog GG0 132 Stepa75 Stepv75 :=
  chk_run (E := { E1 with tb := tbT Stept75 }) (fuel := 400000) (ex_ok [] (by kernel_rfl) trivial) (by kernel_rfl)
def Stept77 : TbT := (.nd none .lf (.nd none (.nd none .lf (.nd none (.nd none (.nd none (.nd none (.nd (some [(Stepa75, Stepv75)]) .lf .lf) .lf) .lf) .lf) .lf)) .lf))
theorem Stepp77 : Pur Go.Proofs.Tryz.prog GG0 64 Stepa77 Stepv77 :=
  chk_run (E := { E1 with tb := tbT Stept77 }) (fuel := 400000) (ex_ok [⟨132, Stepa75, Stepv75⟩] (by kernel_rfl) ⟨Stepp75, trivial⟩) (by kernel_rfl)
def Stept87 : TbT := (.nd none .lf (.nd none (.nd none (.nd none (.nd none (.nd none (.nd (some [(Stepa77, Stepv77)]) .lf .lf) .lf) .lf) .lf) .lf) .lf))
theorem Stepp87 : Pur Go.Proofs.Tryz.prog GG0 264 Stepa87 Stepv87 :=
  chk_run (E := { E1 with tb := tbT Stept87 }) (fuel := 400000) (ex_ok [⟨64, Stepa77, Stepv77⟩] (by kernel_rfl) ⟨Stepp77, trivial⟩) (by kernel_rfl)
def Stept95 : TbT := .lf
theorem Stepp95 : Pur Go.Proofs.Tryz.prog GG0 132 Stepa95 Stepv95 :=
  chk_run (E := { E1 with tb := tbT Stept95 }) (fuel := 400000) (ex_ok [] (by kernel_rfl) trivial) (by kernel_rfl)
def Stept97 : TbT := (.nd none .lf (.nd none (.nd none .lf (.nd none (.nd none (.nd none (.nd none (.nd (some [(Stepa95, Stepv95)]) .lf .lf) .lf) .lf) .lf) .lf)) .lf))
theorem Stepp97 : Pur Go.Proofs.Tryz.prog GG0 64 Stepa97 Stepv97 :=
  chk_run (E := { E1 with tb := tbT Stept97 }) (fuel := 400000) (ex_ok [⟨132, Stepa95, Stepv95⟩] (by kernel_rfl) ⟨Stepp95, trivial⟩) (by kernel_rfl)
def Stept102 : TbT := (.nd none .lf (.nd none (.nd none (.nd none (.nd none (.nd none (.nd (some [(Stepa97, Stepv97)]) .lf .lf) .lf) .lf) .lf) .lf) .lf))
theorem Stepp102 : Pur Go.Proofs.Tryz.prog GG0 264 Stepa102 Stepv102 :=
  chk_run (E := { E1 with tb := tbT Stept102 }) (fuel := 400000) (ex_ok [⟨64, Stepa97, Stepv97⟩] (by kernel_rfl) ⟨Stepp97, trivial⟩) (by kernel_rfl)
def Stept103 : TbT := (.nd none .lf (.nd none (.nd none (.nd none .lf (.nd none (.nd none (.nd none (.nd none (.nd (some [(Stepa102, Stepv102), (Stepa87, Stepv87)]) .lf .lf) .lf) .lf) .lf) .lf)) .lf) .lf))
theorem Stepp103 : Pur Go.Proofs.Tryz.prog GG0 198 Stepa103 Stepv103 :=
  chk_run (E := { E1 with tb := tbT Stept103 }) (fuel := 400000) (ex_ok [⟨264, Stepa102, Stepv102⟩, ⟨264, Stepa87, Stepv87⟩] (by kernel_rfl) ⟨Stepp102, ⟨Stepp87, trivial⟩⟩) (by kernel_rfl)
def Stept113 : TbT := .lf
theorem Stepp113 : Pur Go.Proofs.Tryz.prog GG0 333 Stepa113 Stepv113 :=
  chk_run (E := { E1 with tb := tbT Stept113 }) (fuel := 400000) (ex_ok [] (by kernel_rfl) trivial) (by kernel_rfl)
def Stept114 : TbT := (.nd none (.nd none .lf (.nd none .lf (.nd none .lf (.nd none (.nd none (.nd none .lf (.nd none (.nd (some [(Stepa113, Stepv113)]) .lf .lf) .lf)) .lf) .lf)))) (.nd none (.nd none (.nd none (.nd none (.nd none (.nd (some [(Stepa97, Stepv97)]) .lf .lf) .lf) .lf) .lf) .lf) .lf))
theorem Stepp114 : Pur Go.Proofs.Tryz.prog GG0 266 Stepa114 Stepv114 :=
  chk_run (E := { E1 with tb := tbT Stept114 }) (fuel := 400000) (ex_ok [⟨333, Stepa113, Stepv113⟩, ⟨64, Stepa97, Stepv97⟩] (by kernel_rfl) ⟨Stepp113, ⟨Stepp97, trivial⟩⟩) (by kernel_rfl)
def Stept121 : TbT := .lf
theorem Stepp121 : Pur Go.Proofs.Tryz.prog GG0 333 Stepa121 Stepv121 :=
  chk_run (E := { E1 with tb := tbT Stept121 }) (fuel := 400000) (ex_ok [] (by kernel_rfl) trivial) (by kernel_rfl)
def Stept122 : TbT := (.nd none (.nd none .lf (.nd none .lf (.nd none .lf (.nd none (.nd none (.nd none .lf (.nd none (.nd (some [(Stepa121, Stepv121)]) .lf .lf) .lf)) .lf) .lf)))) (.nd none (.nd none (.nd none (.nd none (.nd none (.nd (some [(Stepa77, Stepv77)]) .lf .lf) .lf) .lf) .lf) .lf) .lf))
theorem Stepp122 : Pur Go.Proofs.Tryz.prog GG0 266 Stepa122 Stepv122 :=
  chk_run (E := { E1 with tb := tbT Stept122 }) (fuel := 400000) (ex_ok [⟨333, Stepa121, Stepv121⟩, ⟨64, Stepa77, Stepv77⟩] (by kernel_rfl) ⟨Stepp121, ⟨Stepp77, trivial⟩⟩) (by kernel_rfl)
def Stept123 : TbT := (.nd none .lf (.nd none .lf (.nd none (.nd none .lf (.nd none (.nd none (.nd none (.nd none (.nd (some [(Stepa122, Stepv122), (Stepa114, Stepv114)]) .lf .lf) .lf) .lf) .lf) .lf)) (.nd none (.nd none (.nd none (.nd none .lf (.nd (some [(Stepa103, Stepv103)]) .lf .lf)) .lf) .lf) .lf))))
theorem Stepp123 : Pur Go.Proofs.Tryz.prog GG0 119 Stepa123 Stepv123 :=
  chk_run (E := { E1 with tb := tbT Stept123 }) (fuel := 400000) (ex_ok [⟨266, Stepa122, Stepv122⟩, ⟨266, Stepa114, Stepv114⟩, ⟨198, Stepa103, Stepv103⟩] (by kernel_rfl) ⟨Stepp122, ⟨Stepp114, ⟨Stepp103, trivial⟩⟩⟩) (by kernel_rfl)
end Go.Ab
