/- Rows of the run, by the kernel. -/
import Derived.Test.YtlipnijnfljdeaaGreatDoorEvQPass1
import Derived.Test.YtlipnijnfljdeaaGreatDoorEvQPass2
import Derived.Test.YtlipnijnfljdeaaGreatDoorEvQPass3
import Derived.Test.YtlipnijnfljdeaaGreatDoorEvQPass4
import Derived.Test.YtlipnijnfljdeaaGreatDoorEvVPass
import Derived.KernelRfl
set_option maxRecDepth 1000000
namespace Go.Ab
def Passt287 : TbT := (.nd none (.nd none (.nd none (.nd none .lf (.nd (some [(Passa283, Passv283), (Passa211, Passv211)]) .lf (.nd none .lf (.nd (some [(Passa280, Passv280), (Passa205, Passv205)]) .lf .lf)))) (.nd none .lf (.nd none (.nd none (.nd none .lf (.nd (some [(Passa230, Passv230)]) .lf .lf)) .lf) .lf))) (.nd none (.nd none (.nd (some [(Passa58, Passv58)]) .lf (.nd none .lf (.nd none (.nd (some [(Passa286, Passv286)]) .lf .lf) .lf))) .lf) .lf)) (.nd none (.nd none (.nd none (.nd (some [(Passa53, Passv53)]) (.nd none (.nd (some [(Passa105, Passv105)]) .lf .lf) .lf) .lf) .lf) (.nd none (.nd none (.nd none .lf (.nd (some [(Passa48, Passv48)]) .lf .lf)) .lf) .lf)) (.nd none .lf (.nd none .lf (.nd none (.nd none (.nd none .lf (.nd (some [(Passa236, Passv236), (Passa66, Passv66)]) .lf .lf)) .lf) .lf)))))
theorem Passp287 : Pur Go.Proofs.Tryz.prog GG0 6 Passa287 Passv287 :=
  chk_run (E := { E1 with tb := tbT Passt287 }) (fuel := 400000) (ex_ok [⟨177, Passa286, Passv286⟩, ⟨23, Passa283, Passv283⟩, ⟨119, Passa280, Passv280⟩, ⟨206, Passa236, Passv236⟩, ⟨203, Passa230, Passv230⟩, ⟨64, Passa105, Passv105⟩, ⟨23, Passa211, Passv211⟩, ⟨119, Passa205, Passv205⟩, ⟨206, Passa66, Passv66⟩, ⟨100, Passa48, Passv48⟩, ⟨17, Passa58, Passv58⟩, ⟨16, Passa53, Passv53⟩] (by kernel_rfl) ⟨Passp286, ⟨Passp283, ⟨Passp280, ⟨Passp236, ⟨Passp230, ⟨Passp105, ⟨Passp211, ⟨Passp205, ⟨Passp66, ⟨Passp48, ⟨Passp58, ⟨Passp53, trivial⟩⟩⟩⟩⟩⟩⟩⟩⟩⟩⟩⟩) (by kernel_rfl)
end Go.Ab
