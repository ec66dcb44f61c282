/- Rows of the run, by the kernel. -/
import Derived.Test.YtijmadhlpmikbaaGreatDoorEvQShadow1
import Derived.Test.YtijmadhlpmikbaaGreatDoorEvQShadow3
import Derived.Test.YtijmadhlpmikbaaGreatDoorEvQShadow4
import Derived.Test.YtijmadhlpmikbaaGreatDoorEvQShadow5
import Derived.Test.YtijmadhlpmikbaaGreatDoorEvVShadow
import Derived.KernelRfl
set_option maxRecDepth 1000000
namespace Go.Ab
def Shadowt443 : TbT := (.nd none (.nd none (.nd none (.nd none (.nd none (.nd none (.nd (some [(Shadowa129, Shadowv129)]) .lf .lf) .lf) .lf) .lf) .lf) (.nd none (.nd none (.nd none (.nd none .lf (.nd (some [(Shadowa69, Shadowv69)]) .lf .lf)) .lf) .lf) .lf)) (.nd none (.nd none (.nd none .lf (.nd none .lf (.nd (some [(Shadowa118, Shadowv118)]) .lf .lf))) (.nd none (.nd (some [(Shadowa441, Shadowv441)]) (.nd (some [(Shadowa386, Shadowv386)]) .lf .lf) .lf) .lf)) (.nd none (.nd none (.nd none (.nd (some [(Shadowa92, Shadowv92)]) .lf .lf) .lf) .lf) (.nd none .lf (.nd none .lf (.nd (some [(Shadowa45, Shadowv45)]) .lf .lf))))))
theorem Shadowp443 : Pur Go.Proofs.Tryz.prog GG0 11 Shadowa443 Shadowv443 :=
  chk_run (E := { E1 with tb := tbT Shadowt443 }) (fuel := 400000) (ex_ok [⟨20, Shadowa441, Shadowv441⟩, ⟨62, Shadowa45, Shadowv45⟩, ⟨63, Shadowa129, Shadowv129⟩, ⟨36, Shadowa386, Shadowv386⟩, ⟨97, Shadowa69, Shadowv69⟩, ⟨34, Shadowa92, Shadowv92⟩, ⟨56, Shadowa118, Shadowv118⟩] (by kernel_rfl) ⟨Shadowp441, ⟨Shadowp45, ⟨Shadowp129, ⟨Shadowp386, ⟨Shadowp69, ⟨Shadowp92, ⟨Shadowp118, trivial⟩⟩⟩⟩⟩⟩⟩) (by kernel_rfl)
def Shadowt445 : TbT := (.nd none (.nd none (.nd none .lf (.nd (some [(Shadowa443, Shadowv443), (Shadowa363, Shadowv363), (Shadowa295, Shadowv295)]) .lf .lf)) (.nd none (.nd none (.nd none (.nd none .lf (.nd (some [(Shadowa69, Shadowv69)]) .lf .lf)) .lf) .lf) .lf)) (.nd none (.nd none (.nd none .lf (.nd none .lf (.nd (some [(Shadowa118, Shadowv118)]) .lf .lf))) (.nd none (.nd none (.nd (some [(Shadowa386, Shadowv386)]) .lf .lf) .lf) .lf)) (.nd none (.nd none (.nd none (.nd (some [(Shadowa92, Shadowv92)]) .lf .lf) .lf) .lf) .lf)))
theorem Shadowp445 : Pur Go.Proofs.Tryz.prog GG0 4 Shadowa445 Shadowv445 :=
  chk_run (E := { E1 with tb := tbT Shadowt445 }) (fuel := 400000) (ex_ok [⟨11, Shadowa443, Shadowv443⟩, ⟨56, Shadowa118, Shadowv118⟩, ⟨34, Shadowa92, Shadowv92⟩, ⟨97, Shadowa69, Shadowv69⟩, ⟨36, Shadowa386, Shadowv386⟩, ⟨11, Shadowa363, Shadowv363⟩, ⟨11, Shadowa295, Shadowv295⟩] (by kernel_rfl) ⟨Shadowp443, ⟨Shadowp118, ⟨Shadowp92, ⟨Shadowp69, ⟨Shadowp386, ⟨Shadowp363, ⟨Shadowp295, trivial⟩⟩⟩⟩⟩⟩⟩) (by kernel_rfl)
theorem law_shadowNames : Pur Go.Proofs.Tryz.prog GG0 4 [] (.c (.bool true)) := Shadowp445
end Go.Ab
