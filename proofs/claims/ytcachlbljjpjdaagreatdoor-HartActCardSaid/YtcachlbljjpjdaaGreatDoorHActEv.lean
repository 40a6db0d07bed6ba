/- What is run. Runs of HartAct, each cube of words by itself. Runs of HartAct, each cube of words by itself. Runs of HartAct, each cube of words by itself. Runs of HartAct, each cube of words by itself. Runs of HartAct, each cube of words by itself. No condition. -/
import Derived.Test.YtcachlbljjpjdaaGreatDoorHEnv
namespace Go.Proofs.YtcachlbljjpjdaaGreatDoor
open Go Go.Proofs
noncomputable def actR (m v : Nat) : Bool := allChk LStart ((ev cxL 4000).call 8 [hartX 0 0, .int .u32 (wordC m v), .int .i64 (.wrap .i64 (.var 3))] (stPc []))
end Go.Proofs.YtcachlbljjpjdaaGreatDoor

namespace Go.Proofs.YtcachlbljjpjdaaGreatDoor
open Go Go.Proofs
set_option maxRecDepth 100000
theorem act_2147483775_2147483775 : actR 2147483775 2147483775 = true := by unfold actR; rw [evT_call]; kernel_rfl
theorem act_2147483775_2147483743 : actR 2147483775 2147483743 = true := by unfold actR; rw [evT_call]; kernel_rfl
theorem act_2147483775_2147483759 : actR 2147483775 2147483759 = true := by unfold actR; rw [evT_call]; kernel_rfl
theorem act_2550136959_2415919151 : actR 2550136959 2415919151 = true := by unfold actR; rw [evT_call]; kernel_rfl
theorem act_2550136959_268435503 : actR 2550136959 268435503 = true := by unfold actR; rw [evT_call]; kernel_rfl
theorem act_2147483775_2147483663 : actR 2147483775 2147483663 = true := by unfold actR; rw [evT_call]; kernel_rfl
theorem act_2147483775_2147483703 : actR 2147483775 2147483703 = true := by unfold actR; rw [evT_call]; kernel_rfl
theorem act_2147483775_2147483671 : actR 2147483775 2147483671 = true := by unfold actR; rw [evT_call]; kernel_rfl
theorem act_2147483775_2147483687 : actR 2147483775 2147483687 = true := by unfold actR; rw [evT_call]; kernel_rfl
theorem act_2147483775_2147483655 : actR 2147483775 2147483655 = true := by unfold actR; rw [evT_call]; kernel_rfl
theorem act_2147483775_2147483707 : actR 2147483775 2147483707 = true := by unfold actR; rw [evT_call]; kernel_rfl
theorem act_2147483775_2147483675 : actR 2147483775 2147483675 = true := by unfold actR; rw [evT_call]; kernel_rfl
theorem act_2147483775_2147483691 : actR 2147483775 2147483691 = true := by unfold actR; rw [evT_call]; kernel_rfl
theorem act_2147483775_2147483659 : actR 2147483775 2147483659 = true := by unfold actR; rw [evT_call]; kernel_rfl
theorem act_2147500159_2147500083 : actR 2147500159 2147500083 = true := by unfold actR; rw [evT_call]; kernel_rfl
theorem act_2147483775_2147483731 : actR 2147483775 2147483731 = true := by unfold actR; rw [evT_call]; kernel_rfl
theorem act_2147483775_2147483747 : actR 2147483775 2147483747 = true := by unfold actR; rw [evT_call]; kernel_rfl
theorem act_2147483775_2147483715 : actR 2147483775 2147483715 = true := by unfold actR; rw [evT_call]; kernel_rfl
theorem act_2147483651_2147483649 : actR 2147483651 2147483649 = true := by unfold actR; rw [evT_call]; kernel_rfl
theorem act_2147483651_2147483648 : actR 2147483651 2147483648 = true := by unfold actR; rw [evT_call]; kernel_rfl
end Go.Proofs.YtcachlbljjpjdaaGreatDoor

namespace Go.Proofs.YtcachlbljjpjdaaGreatDoor
open Go Go.Proofs
set_option maxRecDepth 100000
theorem act_2147483775_127 : actR 2147483775 127 = true := by unfold actR; rw [evT_call]; kernel_rfl
theorem act_2147483775_95 : actR 2147483775 95 = true := by unfold actR; rw [evT_call]; kernel_rfl
theorem act_2147483775_111 : actR 2147483775 111 = true := by unfold actR; rw [evT_call]; kernel_rfl
theorem act_2550136959_2147483695 : actR 2550136959 2147483695 = true := by unfold actR; rw [evT_call]; kernel_rfl
theorem act_2550136959_47 : actR 2550136959 47 = true := by unfold actR; rw [evT_call]; kernel_rfl
theorem act_2147483775_15 : actR 2147483775 15 = true := by unfold actR; rw [evT_call]; kernel_rfl
theorem act_2147483775_55 : actR 2147483775 55 = true := by unfold actR; rw [evT_call]; kernel_rfl
theorem act_2147483775_23 : actR 2147483775 23 = true := by unfold actR; rw [evT_call]; kernel_rfl
theorem act_2147483775_39 : actR 2147483775 39 = true := by unfold actR; rw [evT_call]; kernel_rfl
theorem act_2147483775_7 : actR 2147483775 7 = true := by unfold actR; rw [evT_call]; kernel_rfl
theorem act_2147483775_59 : actR 2147483775 59 = true := by unfold actR; rw [evT_call]; kernel_rfl
theorem act_2147483775_27 : actR 2147483775 27 = true := by unfold actR; rw [evT_call]; kernel_rfl
theorem act_2147483775_43 : actR 2147483775 43 = true := by unfold actR; rw [evT_call]; kernel_rfl
theorem act_2147483775_11 : actR 2147483775 11 = true := by unfold actR; rw [evT_call]; kernel_rfl
theorem act_2147500159_2147483699 : actR 2147500159 2147483699 = true := by unfold actR; rw [evT_call]; kernel_rfl
theorem act_2147483775_83 : actR 2147483775 83 = true := by unfold actR; rw [evT_call]; kernel_rfl
theorem act_2147483775_99 : actR 2147483775 99 = true := by unfold actR; rw [evT_call]; kernel_rfl
theorem act_2147483775_67 : actR 2147483775 67 = true := by unfold actR; rw [evT_call]; kernel_rfl
theorem act_2147483651_1 : actR 2147483651 1 = true := by unfold actR; rw [evT_call]; kernel_rfl
theorem act_2147483651_0 : actR 2147483651 0 = true := by unfold actR; rw [evT_call]; kernel_rfl
end Go.Proofs.YtcachlbljjpjdaaGreatDoor

namespace Go.Proofs.YtcachlbljjpjdaaGreatDoor
open Go Go.Proofs
set_option maxRecDepth 100000
theorem act_2147483775_2147483711 : actR 2147483775 2147483711 = true := by unfold actR; rw [evT_call]; kernel_rfl
theorem act_2147483775_2147483679 : actR 2147483775 2147483679 = true := by unfold actR; rw [evT_call]; kernel_rfl
theorem act_2550136959_2550136879 : actR 2550136959 2550136879 = true := by unfold actR; rw [evT_call]; kernel_rfl
theorem act_2550136959_402653231 : actR 2550136959 402653231 = true := by unfold actR; rw [evT_call]; kernel_rfl
theorem act_2147483775_2147483727 : actR 2147483775 2147483727 = true := by unfold actR; rw [evT_call]; kernel_rfl
theorem act_2147483775_2147483767 : actR 2147483775 2147483767 = true := by unfold actR; rw [evT_call]; kernel_rfl
theorem act_2147483775_2147483735 : actR 2147483775 2147483735 = true := by unfold actR; rw [evT_call]; kernel_rfl
theorem act_2147483775_2147483751 : actR 2147483775 2147483751 = true := by unfold actR; rw [evT_call]; kernel_rfl
theorem act_2147483775_2147483719 : actR 2147483775 2147483719 = true := by unfold actR; rw [evT_call]; kernel_rfl
theorem act_2147483775_2147483771 : actR 2147483775 2147483771 = true := by unfold actR; rw [evT_call]; kernel_rfl
theorem act_2147483775_2147483739 : actR 2147483775 2147483739 = true := by unfold actR; rw [evT_call]; kernel_rfl
theorem act_2147483775_2147483755 : actR 2147483775 2147483755 = true := by unfold actR; rw [evT_call]; kernel_rfl
theorem act_2147483775_2147483723 : actR 2147483775 2147483723 = true := by unfold actR; rw [evT_call]; kernel_rfl
theorem act_2147483775_2147483763 : actR 2147483775 2147483763 = true := by unfold actR; rw [evT_call]; kernel_rfl
theorem act_2147500159_16435 : actR 2147500159 16435 = true := by unfold actR; rw [evT_call]; kernel_rfl
theorem act_2147483775_2147483667 : actR 2147483775 2147483667 = true := by unfold actR; rw [evT_call]; kernel_rfl
theorem act_2147483775_2147483683 : actR 2147483775 2147483683 = true := by unfold actR; rw [evT_call]; kernel_rfl
theorem act_2147483775_2147483651 : actR 2147483775 2147483651 = true := by unfold actR; rw [evT_call]; kernel_rfl
theorem act_2147483651_2147483650 : actR 2147483651 2147483650 = true := by unfold actR; rw [evT_call]; kernel_rfl
end Go.Proofs.YtcachlbljjpjdaaGreatDoor

namespace Go.Proofs.YtcachlbljjpjdaaGreatDoor
open Go Go.Proofs
set_option maxRecDepth 100000
theorem act_2147483775_63 : actR 2147483775 63 = true := by unfold actR; rw [evT_call]; kernel_rfl
theorem act_2147483775_31 : actR 2147483775 31 = true := by unfold actR; rw [evT_call]; kernel_rfl
theorem act_2550136959_2281701423 : actR 2550136959 2281701423 = true := by unfold actR; rw [evT_call]; kernel_rfl
theorem act_2550136959_134217775 : actR 2550136959 134217775 = true := by unfold actR; rw [evT_call]; kernel_rfl
theorem act_2147483775_79 : actR 2147483775 79 = true := by unfold actR; rw [evT_call]; kernel_rfl
theorem act_2147483775_119 : actR 2147483775 119 = true := by unfold actR; rw [evT_call]; kernel_rfl
theorem act_2147483775_87 : actR 2147483775 87 = true := by unfold actR; rw [evT_call]; kernel_rfl
theorem act_2147483775_103 : actR 2147483775 103 = true := by unfold actR; rw [evT_call]; kernel_rfl
theorem act_2147483775_71 : actR 2147483775 71 = true := by unfold actR; rw [evT_call]; kernel_rfl
theorem act_2147483775_123 : actR 2147483775 123 = true := by unfold actR; rw [evT_call]; kernel_rfl
theorem act_2147483775_91 : actR 2147483775 91 = true := by unfold actR; rw [evT_call]; kernel_rfl
theorem act_2147483775_107 : actR 2147483775 107 = true := by unfold actR; rw [evT_call]; kernel_rfl
theorem act_2147483775_75 : actR 2147483775 75 = true := by unfold actR; rw [evT_call]; kernel_rfl
theorem act_2147483775_115 : actR 2147483775 115 = true := by unfold actR; rw [evT_call]; kernel_rfl
theorem act_2147500159_51 : actR 2147500159 51 = true := by unfold actR; rw [evT_call]; kernel_rfl
theorem act_2147483775_19 : actR 2147483775 19 = true := by unfold actR; rw [evT_call]; kernel_rfl
theorem act_2147483775_35 : actR 2147483775 35 = true := by unfold actR; rw [evT_call]; kernel_rfl
theorem act_2147483775_3 : actR 2147483775 3 = true := by unfold actR; rw [evT_call]; kernel_rfl
theorem act_2147483651_2 : actR 2147483651 2 = true := by unfold actR; rw [evT_call]; kernel_rfl
end Go.Proofs.YtcachlbljjpjdaaGreatDoor

namespace Go.Proofs.YtcachlbljjpjdaaGreatDoor
open Go Go.Proofs
set_option maxRecDepth 100000
theorem act_all : Cut.All (fun m v => allChk LStart ((ev cxL 4000).call 8 [hartX 0 0, .int .u32 (wordC m v), .int .i64 (.wrap .i64 (.var 3))] (stPc []))) (.br 0 (.br 1 (.br 2 (.br 3 (.br 4 (.br 5 (.br 6 (.br 31 .leaf .leaf) (.br 31 .leaf .leaf)) (.br 6 (.br 31 .leaf .leaf) (.br 31 .leaf .leaf))) (.br 5 (.br 6 (.br 31 .leaf .leaf) (.br 31 (.br 27 (.br 28 .leaf .leaf) (.br 28 .leaf .leaf)) (.br 27 (.br 28 .leaf .leaf) (.br 28 .leaf .leaf)))) (.br 6 (.br 31 .leaf .leaf) (.br 31 .leaf .leaf)))) (.br 4 (.br 5 (.br 6 (.br 31 .leaf .leaf) (.br 31 .leaf .leaf)) (.br 6 (.br 31 .leaf .leaf) (.br 31 .leaf .leaf))) (.br 5 (.br 6 (.br 31 .leaf .leaf) (.br 31 .leaf .leaf)) (.br 6 (.br 31 .leaf .leaf) (.br 31 .leaf .leaf))))) (.br 3 (.br 4 (.br 5 (.br 6 (.br 31 .leaf .leaf) (.br 31 .leaf .leaf)) (.br 6 (.br 31 .leaf .leaf) (.br 31 .leaf .leaf))) (.br 5 (.br 6 (.br 31 .leaf .leaf) (.br 31 .leaf .leaf)) (.br 6 (.br 31 .leaf .leaf) (.br 31 .leaf .leaf)))) (.br 4 (.br 5 (.br 6 (.br 31 .leaf .leaf) (.br 31 (.br 14 .leaf .leaf) (.br 14 .leaf .leaf))) (.br 6 (.br 31 .leaf .leaf) (.br 31 .leaf .leaf))) (.br 5 (.br 6 (.br 31 .leaf .leaf) (.br 31 .leaf .leaf)) (.br 6 (.br 31 .leaf .leaf) (.br 31 .leaf .leaf)))))) (.br 31 .leaf .leaf)) (.br 1 (.br 31 .leaf .leaf) (.br 31 .leaf .leaf))) 0 0 := (Cut.both (Cut.both (Cut.both (Cut.both (Cut.both (Cut.both (Cut.both (Cut.both (Cut.one 2147483775 2147483775 rfl rfl act_2147483775_2147483775) (Cut.one 2147483775 127 rfl rfl act_2147483775_127)) (Cut.both (Cut.one 2147483775 2147483711 rfl rfl act_2147483775_2147483711) (Cut.one 2147483775 63 rfl rfl act_2147483775_63))) (Cut.both (Cut.both (Cut.one 2147483775 2147483743 rfl rfl act_2147483775_2147483743) (Cut.one 2147483775 95 rfl rfl act_2147483775_95)) (Cut.both (Cut.one 2147483775 2147483679 rfl rfl act_2147483775_2147483679) (Cut.one 2147483775 31 rfl rfl act_2147483775_31)))) (Cut.both (Cut.both (Cut.both (Cut.one 2147483775 2147483759 rfl rfl act_2147483775_2147483759) (Cut.one 2147483775 111 rfl rfl act_2147483775_111)) (Cut.both (Cut.both (Cut.both (Cut.one 2550136959 2550136879 rfl rfl act_2550136959_2550136879) (Cut.one 2550136959 2281701423 rfl rfl act_2550136959_2281701423)) (Cut.both (Cut.one 2550136959 2415919151 rfl rfl act_2550136959_2415919151) (Cut.one 2550136959 2147483695 rfl rfl act_2550136959_2147483695))) (Cut.both (Cut.both (Cut.one 2550136959 402653231 rfl rfl act_2550136959_402653231) (Cut.one 2550136959 134217775 rfl rfl act_2550136959_134217775)) (Cut.both (Cut.one 2550136959 268435503 rfl rfl act_2550136959_268435503) (Cut.one 2550136959 47 rfl rfl act_2550136959_47))))) (Cut.both (Cut.both (Cut.one 2147483775 2147483727 rfl rfl act_2147483775_2147483727) (Cut.one 2147483775 79 rfl rfl act_2147483775_79)) (Cut.both (Cut.one 2147483775 2147483663 rfl rfl act_2147483775_2147483663) (Cut.one 2147483775 15 rfl rfl act_2147483775_15))))) (Cut.both (Cut.both (Cut.both (Cut.both (Cut.one 2147483775 2147483767 rfl rfl act_2147483775_2147483767) (Cut.one 2147483775 119 rfl rfl act_2147483775_119)) (Cut.both (Cut.one 2147483775 2147483703 rfl rfl act_2147483775_2147483703) (Cut.one 2147483775 55 rfl rfl act_2147483775_55))) (Cut.both (Cut.both (Cut.one 2147483775 2147483735 rfl rfl act_2147483775_2147483735) (Cut.one 2147483775 87 rfl rfl act_2147483775_87)) (Cut.both (Cut.one 2147483775 2147483671 rfl rfl act_2147483775_2147483671) (Cut.one 2147483775 23 rfl rfl act_2147483775_23)))) (Cut.both (Cut.both (Cut.both (Cut.one 2147483775 2147483751 rfl rfl act_2147483775_2147483751) (Cut.one 2147483775 103 rfl rfl act_2147483775_103)) (Cut.both (Cut.one 2147483775 2147483687 rfl rfl act_2147483775_2147483687) (Cut.one 2147483775 39 rfl rfl act_2147483775_39))) (Cut.both (Cut.both (Cut.one 2147483775 2147483719 rfl rfl act_2147483775_2147483719) (Cut.one 2147483775 71 rfl rfl act_2147483775_71)) (Cut.both (Cut.one 2147483775 2147483655 rfl rfl act_2147483775_2147483655) (Cut.one 2147483775 7 rfl rfl act_2147483775_7)))))) (Cut.both (Cut.both (Cut.both (Cut.both (Cut.both (Cut.one 2147483775 2147483771 rfl rfl act_2147483775_2147483771) (Cut.one 2147483775 123 rfl rfl act_2147483775_123)) (Cut.both (Cut.one 2147483775 2147483707 rfl rfl act_2147483775_2147483707) (Cut.one 2147483775 59 rfl rfl act_2147483775_59))) (Cut.both (Cut.both (Cut.one 2147483775 2147483739 rfl rfl act_2147483775_2147483739) (Cut.one 2147483775 91 rfl rfl act_2147483775_91)) (Cut.both (Cut.one 2147483775 2147483675 rfl rfl act_2147483775_2147483675) (Cut.one 2147483775 27 rfl rfl act_2147483775_27)))) (Cut.both (Cut.both (Cut.both (Cut.one 2147483775 2147483755 rfl rfl act_2147483775_2147483755) (Cut.one 2147483775 107 rfl rfl act_2147483775_107)) (Cut.both (Cut.one 2147483775 2147483691 rfl rfl act_2147483775_2147483691) (Cut.one 2147483775 43 rfl rfl act_2147483775_43))) (Cut.both (Cut.both (Cut.one 2147483775 2147483723 rfl rfl act_2147483775_2147483723) (Cut.one 2147483775 75 rfl rfl act_2147483775_75)) (Cut.both (Cut.one 2147483775 2147483659 rfl rfl act_2147483775_2147483659) (Cut.one 2147483775 11 rfl rfl act_2147483775_11))))) (Cut.both (Cut.both (Cut.both (Cut.both (Cut.one 2147483775 2147483763 rfl rfl act_2147483775_2147483763) (Cut.one 2147483775 115 rfl rfl act_2147483775_115)) (Cut.both (Cut.both (Cut.one 2147500159 2147500083 rfl rfl act_2147500159_2147500083) (Cut.one 2147500159 2147483699 rfl rfl act_2147500159_2147483699)) (Cut.both (Cut.one 2147500159 16435 rfl rfl act_2147500159_16435) (Cut.one 2147500159 51 rfl rfl act_2147500159_51)))) (Cut.both (Cut.both (Cut.one 2147483775 2147483731 rfl rfl act_2147483775_2147483731) (Cut.one 2147483775 83 rfl rfl act_2147483775_83)) (Cut.both (Cut.one 2147483775 2147483667 rfl rfl act_2147483775_2147483667) (Cut.one 2147483775 19 rfl rfl act_2147483775_19)))) (Cut.both (Cut.both (Cut.both (Cut.one 2147483775 2147483747 rfl rfl act_2147483775_2147483747) (Cut.one 2147483775 99 rfl rfl act_2147483775_99)) (Cut.both (Cut.one 2147483775 2147483683 rfl rfl act_2147483775_2147483683) (Cut.one 2147483775 35 rfl rfl act_2147483775_35))) (Cut.both (Cut.both (Cut.one 2147483775 2147483715 rfl rfl act_2147483775_2147483715) (Cut.one 2147483775 67 rfl rfl act_2147483775_67)) (Cut.both (Cut.one 2147483775 2147483651 rfl rfl act_2147483775_2147483651) (Cut.one 2147483775 3 rfl rfl act_2147483775_3))))))) (Cut.both (Cut.one 2147483651 2147483649 rfl rfl act_2147483651_2147483649) (Cut.one 2147483651 1 rfl rfl act_2147483651_1))) (Cut.both (Cut.both (Cut.one 2147483651 2147483650 rfl rfl act_2147483651_2147483650) (Cut.one 2147483651 2 rfl rfl act_2147483651_2)) (Cut.both (Cut.one 2147483651 2147483648 rfl rfl act_2147483651_2147483648) (Cut.one 2147483651 0 rfl rfl act_2147483651_0))))
end Go.Proofs.YtcachlbljjpjdaaGreatDoor
