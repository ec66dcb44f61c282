/- The law's own run, by the kernel. -/
import Derived.Test.YtijmadhlpmikbaaGreatDoorEvOk
import Derived.Test.YtijmadhlpmikbaaGreatDoorEvM1
import Derived.Test.YtijmadhlpmikbaaGreatDoorEvM2
import Derived.Test.YtijmadhlpmikbaaGreatDoorEvM3
import Derived.Test.YtijmadhlpmikbaaGreatDoorEvM4
set_option maxRecDepth 1000000
namespace Go.Ab
def tb1 : List TRow := [⟨26, [Uv 0, Iv 0], .c (.bool true)⟩, ⟨26, [Uv 1, Iv 1], .c (.bool true)⟩, ⟨26, [Uv 5, Iv 1], .c (.bool true)⟩, ⟨26, [Uv 3, Iv 2], .c (.bool true)⟩]
noncomputable def E1 : XE := { E0 with tb := tbL tb1 }
theorem e1_ok : EOk Go.Proofs.Tryz.prog E1 := ⟨by kernel_rfl, te_ok, ft_ok, gp0, tbL_ok (fun r hr => by
  simp only [tb1, List.mem_cons, List.not_mem_nil, or_false] at hr
  rcases hr with rfl | rfl | rfl | rfl
  · exact chk_run e0_ok m1
  · exact chk_run e0_ok m2
  · exact chk_run e0_ok m3
  · exact chk_run e0_ok m4)⟩
theorem top : chk (run E1 400000 3 []) (.c (.bool true)) = true := by kernel_rfl
theorem law_bestNames : Pur Go.Proofs.Tryz.prog GG0 3 [] (.c (.bool true)) := chk_run e1_ok top
end Go.Ab
