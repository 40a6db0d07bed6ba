/- What is run. Runs of done, each cube of words by itself. Runs of done, each cube of words by itself. No condition. -/
import Derived.Test.YtcachlbljjpjdaaGreatDoorHEnv
namespace Go.Proofs.YtcachlbljjpjdaaGreatDoor
open Go Go.Proofs
noncomputable def doneR (m v : Nat) : Bool := allChkM LStart 100007 ((ev cxL 4000).call 12 (doneX (wordC m v)) (stG LStart 7))
end Go.Proofs.YtcachlbljjpjdaaGreatDoor

namespace Go.Proofs.YtcachlbljjpjdaaGreatDoor
open Go Go.Proofs
set_option maxRecDepth 100000
theorem done_2147483775_2147483775 : doneR 2147483775 2147483775 = true := by unfold doneR; rw [evT_call]; kernel_rfl
theorem done_2147483775_2147483743 : doneR 2147483775 2147483743 = true := by unfold doneR; rw [evT_call]; kernel_rfl
theorem done_2147483775_2147483759 : doneR 2147483775 2147483759 = true := by unfold doneR; rw [evT_call]; kernel_rfl
theorem done_3087007871_2818572335 : doneR 3087007871 2818572335 = true := by unfold doneR; rw [evT_call]; kernel_rfl
theorem done_3087007871_2684354607 : doneR 3087007871 2684354607 = true := by unfold doneR; rw [evT_call]; kernel_rfl
theorem done_3087007871_671088687 : doneR 3087007871 671088687 = true := by unfold doneR; rw [evT_call]; kernel_rfl
theorem done_3087007871_536870959 : doneR 3087007871 536870959 = true := by unfold doneR; rw [evT_call]; kernel_rfl
theorem done_2147483775_2147483663 : doneR 2147483775 2147483663 = true := by unfold doneR; rw [evT_call]; kernel_rfl
theorem done_2147483775_2147483703 : doneR 2147483775 2147483703 = true := by unfold doneR; rw [evT_call]; kernel_rfl
theorem done_2147483775_2147483671 : doneR 2147483775 2147483671 = true := by unfold doneR; rw [evT_call]; kernel_rfl
theorem done_2147483775_2147483687 : doneR 2147483775 2147483687 = true := by unfold doneR; rw [evT_call]; kernel_rfl
theorem done_2147483775_2147483655 : doneR 2147483775 2147483655 = true := by unfold doneR; rw [evT_call]; kernel_rfl
theorem done_2147483775_2147483707 : doneR 2147483775 2147483707 = true := by unfold doneR; rw [evT_call]; kernel_rfl
theorem done_2147483775_2147483675 : doneR 2147483775 2147483675 = true := by unfold doneR; rw [evT_call]; kernel_rfl
theorem done_2147483775_2147483691 : doneR 2147483775 2147483691 = true := by unfold doneR; rw [evT_call]; kernel_rfl
theorem done_2147483775_2147483659 : doneR 2147483775 2147483659 = true := by unfold doneR; rw [evT_call]; kernel_rfl
theorem done_2181062783_2181062707 : doneR 2181062783 2181062707 = true := by unfold doneR; rw [evT_call]; kernel_rfl
theorem done_2181062783_2147508275 : doneR 2181062783 2147508275 = true := by unfold doneR; rw [evT_call]; kernel_rfl
theorem done_2181062783_33579059 : doneR 2181062783 33579059 = true := by unfold doneR; rw [evT_call]; kernel_rfl
theorem done_2181062783_24627 : doneR 2181062783 24627 = true := by unfold doneR; rw [evT_call]; kernel_rfl
theorem done_2147483775_2147483731 : doneR 2147483775 2147483731 = true := by unfold doneR; rw [evT_call]; kernel_rfl
theorem done_2147500159_16403 : doneR 2147500159 16403 = true := by unfold doneR; rw [evT_call]; kernel_rfl
theorem done_2147483775_2147483683 : doneR 2147483775 2147483683 = true := by unfold doneR; rw [evT_call]; kernel_rfl
theorem done_2147483775_2147483651 : doneR 2147483775 2147483651 = true := by unfold doneR; rw [evT_call]; kernel_rfl
theorem done_2147483651_2147483650 : doneR 2147483651 2147483650 = true := by unfold doneR; rw [evT_call]; kernel_rfl
end Go.Proofs.YtcachlbljjpjdaaGreatDoor

namespace Go.Proofs.YtcachlbljjpjdaaGreatDoor
open Go Go.Proofs
set_option maxRecDepth 100000
theorem done_2147483775_127 : doneR 2147483775 127 = true := by unfold doneR; rw [evT_call]; kernel_rfl
theorem done_2147483775_95 : doneR 2147483775 95 = true := by unfold doneR; rw [evT_call]; kernel_rfl
theorem done_2147483775_111 : doneR 2147483775 111 = true := by unfold doneR; rw [evT_call]; kernel_rfl
theorem done_3087007871_2281701423 : doneR 3087007871 2281701423 = true := by unfold doneR; rw [evT_call]; kernel_rfl
theorem done_3087007871_2147483695 : doneR 3087007871 2147483695 = true := by unfold doneR; rw [evT_call]; kernel_rfl
theorem done_3087007871_134217775 : doneR 3087007871 134217775 = true := by unfold doneR; rw [evT_call]; kernel_rfl
theorem done_3087007871_47 : doneR 3087007871 47 = true := by unfold doneR; rw [evT_call]; kernel_rfl
theorem done_2147483775_15 : doneR 2147483775 15 = true := by unfold doneR; rw [evT_call]; kernel_rfl
theorem done_2147483775_55 : doneR 2147483775 55 = true := by unfold doneR; rw [evT_call]; kernel_rfl
theorem done_2147483775_23 : doneR 2147483775 23 = true := by unfold doneR; rw [evT_call]; kernel_rfl
theorem done_2147483775_39 : doneR 2147483775 39 = true := by unfold doneR; rw [evT_call]; kernel_rfl
theorem done_2147483775_7 : doneR 2147483775 7 = true := by unfold doneR; rw [evT_call]; kernel_rfl
theorem done_2147483775_59 : doneR 2147483775 59 = true := by unfold doneR; rw [evT_call]; kernel_rfl
theorem done_2147483775_27 : doneR 2147483775 27 = true := by unfold doneR; rw [evT_call]; kernel_rfl
theorem done_2147483775_43 : doneR 2147483775 43 = true := by unfold doneR; rw [evT_call]; kernel_rfl
theorem done_2147483775_11 : doneR 2147483775 11 = true := by unfold doneR; rw [evT_call]; kernel_rfl
theorem done_2181062783_2181054515 : doneR 2181062783 2181054515 = true := by unfold doneR; rw [evT_call]; kernel_rfl
theorem done_2181062783_2147500083 : doneR 2181062783 2147500083 = true := by unfold doneR; rw [evT_call]; kernel_rfl
theorem done_2181062783_33570867 : doneR 2181062783 33570867 = true := by unfold doneR; rw [evT_call]; kernel_rfl
theorem done_2181062783_16435 : doneR 2181062783 16435 = true := by unfold doneR; rw [evT_call]; kernel_rfl
theorem done_2147483775_83 : doneR 2147483775 83 = true := by unfold doneR; rw [evT_call]; kernel_rfl
theorem done_2147500159_19 : doneR 2147500159 19 = true := by unfold doneR; rw [evT_call]; kernel_rfl
theorem done_2147483775_35 : doneR 2147483775 35 = true := by unfold doneR; rw [evT_call]; kernel_rfl
theorem done_2147483775_3 : doneR 2147483775 3 = true := by unfold doneR; rw [evT_call]; kernel_rfl
theorem done_2147483651_2 : doneR 2147483651 2 = true := by unfold doneR; rw [evT_call]; kernel_rfl
end Go.Proofs.YtcachlbljjpjdaaGreatDoor
