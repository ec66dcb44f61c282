/- Rows of the run, by the kernel. -/
import Derived.Test.YtijmadhlpmikbaaGreatDoorEvQFill1
import Derived.Test.YtijmadhlpmikbaaGreatDoorEvQFill2
import Derived.Test.YtijmadhlpmikbaaGreatDoorEvQFill3
import Derived.Test.YtijmadhlpmikbaaGreatDoorEvVFill
import Derived.KernelRfl
set_option maxRecDepth 1000000
namespace Go.Ab
def Fillt333 : TbT := (.nd none .lf (.nd none .lf (.nd none (.nd none (.nd none (.nd (some [(Filla213, Fillv213)]) .lf .lf) .lf) .lf) .lf)))
theorem Fillp333 : Pur Go.Proofs.Tryz.prog GG0 42 Filla333 Fillv333 :=
  chk_run (E := { E1 with tb := tbT Fillt333 }) (fuel := 400000) (ex_ok [⟨34, Filla213, Fillv213⟩] (by kernel_rfl) ⟨Fillp213, trivial⟩) (by kernel_rfl)
def Fillt337 : TbT := (.nd none .lf (.nd none .lf (.nd none (.nd none (.nd none (.nd (some [(Filla229, Fillv229)]) .lf .lf) .lf) .lf) .lf)))
theorem Fillp337 : Pur Go.Proofs.Tryz.prog GG0 42 Filla337 Fillv337 :=
  chk_run (E := { E1 with tb := tbT Fillt337 }) (fuel := 400000) (ex_ok [⟨34, Filla229, Fillv229⟩] (by kernel_rfl) ⟨Fillp229, trivial⟩) (by kernel_rfl)
def Fillt338 : TbT := (.nd none .lf (.nd none .lf (.nd none (.nd none .lf (.nd none (.nd (some [(Filla337, Fillv337), (Filla333, Fillv333), (Filla328, Fillv328), (Filla324, Fillv324)]) .lf .lf) .lf)) .lf)))
theorem Fillp338 : Pur Go.Proofs.Tryz.prog GG0 20 Filla338 Fillv338 :=
  chk_run (E := { E1 with tb := tbT Fillt338 }) (fuel := 400000) (ex_ok [⟨42, Filla337, Fillv337⟩, ⟨42, Filla333, Fillv333⟩, ⟨42, Filla328, Fillv328⟩, ⟨42, Filla324, Fillv324⟩] (by kernel_rfl) ⟨Fillp337, ⟨Fillp333, ⟨Fillp328, ⟨Fillp324, trivial⟩⟩⟩⟩) (by kernel_rfl)
def Fillt340 : TbT := (.nd none (.nd none .lf (.nd none (.nd none (.nd none (.nd none (.nd (some [(Filla90, Fillv90)]) .lf .lf) .lf) .lf) .lf) (.nd (some [(Filla299, Fillv299)]) .lf .lf))) (.nd none (.nd none .lf (.nd none (.nd (some [(Filla338, Fillv338)]) (.nd (some [(Filla281, Fillv281)]) .lf .lf) .lf) .lf)) (.nd none (.nd none (.nd none (.nd (some [(Filla307, Fillv307)]) .lf .lf) .lf) (.nd none (.nd none (.nd (some [(Filla267, Fillv267)]) .lf .lf) .lf) .lf)) .lf)))
theorem Fillp340 : Pur Go.Proofs.Tryz.prog GG0 15 Filla340 Fillv340 :=
  chk_run (E := { E1 with tb := tbT Fillt340 }) (fuel := 400000) (ex_ok [⟨20, Filla338, Fillv338⟩, ⟨34, Filla307, Fillv307⟩, ⟨13, Filla299, Fillv299⟩, ⟨65, Filla90, Fillv90⟩, ⟨36, Filla281, Fillv281⟩, ⟨74, Filla267, Fillv267⟩] (by kernel_rfl) ⟨Fillp338, ⟨Fillp307, ⟨Fillp299, ⟨Fillp90, ⟨Fillp281, ⟨Fillp267, trivial⟩⟩⟩⟩⟩⟩) (by kernel_rfl)
def Fillt342 : TbT := (.nd none (.nd none (.nd none (.nd none (.nd (some [(Filla340, Fillv340), (Filla258, Fillv258)]) .lf .lf) .lf) .lf) .lf) (.nd none (.nd none .lf (.nd none (.nd none (.nd (some [(Filla77, Fillv77)]) .lf .lf) .lf) .lf)) (.nd none (.nd none .lf (.nd none (.nd none (.nd (some [(Filla43, Fillv43)]) .lf .lf) .lf) .lf)) .lf)))
theorem Fillp342 : Pur Go.Proofs.Tryz.prog GG0 5 Filla342 Fillv342 :=
  chk_run (E := { E1 with tb := tbT Fillt342 }) (fuel := 400000) (ex_ok [⟨15, Filla340, Fillv340⟩, ⟨36, Filla77, Fillv77⟩, ⟨74, Filla43, Fillv43⟩, ⟨15, Filla258, Fillv258⟩] (by kernel_rfl) ⟨Fillp340, ⟨Fillp77, ⟨Fillp43, ⟨Fillp258, trivial⟩⟩⟩⟩) (by kernel_rfl)
theorem law_fillNames : Pur Go.Proofs.Tryz.prog GG0 5 [] (.c (.bool true)) := Fillp342
end Go.Ab
