/- CorePlay's loop over acts: the rounds of shape 12. No condition. -/
import Derived.Test.YtgcbnjpeifigaaaGreatDoorJLp
namespace Go.Proofs.YtgcbnjpeifigaaaGreatDoor
open Go Go.Proofs
set_option maxRecDepth 100000
theorem Z9:ao (aN 12) 0 0=true:=by kernel_rfl
theorem aaa:ao (aN 12) 0 1=true:=by kernel_rfl
theorem aab:ao (aN 12) 1 0=true:=by kernel_rfl
theorem aac:ao (aN 12) 1 1=true:=by kernel_rfl
theorem aad:ao (aN 12) 2 0=true:=by kernel_rfl
theorem aae:ao (aN 12) 2 1=true:=by kernel_rfl
theorem aaf:ao (aN 12) 3 0=true:=by kernel_rfl
theorem aag:ao (aN 12) 3 1=true:=by kernel_rfl
theorem aai:ao (aN 12) 4 0=true:=by kernel_rfl
theorem aaj:ao (aN 12) 4 1=true:=by kernel_rfl
theorem aak:ao (aN 12) 5 0=true:=by kernel_rfl
theorem aal:ao (aN 12) 5 1=true:=by kernel_rfl
theorem aam:ao (aN 12) 6 0=true:=by kernel_rfl
theorem aan:ao (aN 12) 6 1=true:=by kernel_rfl
theorem aao:ao (aN 12) 7 0=true:=by kernel_rfl
theorem aap:ao (aN 12) 7 1=true:=by kernel_rfl
theorem c12_8_0:ao (aN 12) 8 0=true:=by kernel_rfl
theorem c12_8_1:ao (aN 12) 8 1=true:=by kernel_rfl
end Go.Proofs.YtgcbnjpeifigaaaGreatDoor
