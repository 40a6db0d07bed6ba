/- Done, Done and Act of each cube of words, looked at together. No condition. -/
import Derived.Test.YtcachlbljjpjdaaGreatDoorHOneA
namespace Go.Proofs.YtcachlbljjpjdaaGreatDoor
open Go Go.Proofs
set_option maxRecDepth 100000
theorem c0 : OneC 2147483775 2147483775 := .of (by kernel_rfl)
theorem c4 : OneC 2147483775 2147483743 := .of (by kernel_rfl)
theorem c8 : OneC 2147483775 2147483759 := .of (by kernel_rfl)
theorem c12 : OneC 2550136959 2415919151 := .of (by kernel_rfl)
theorem c16 : OneC 2550136959 268435503 := .of (by kernel_rfl)
theorem c20 : OneC 2147483775 2147483663 := .of (by kernel_rfl)
theorem c24 : OneC 2147483775 2147483703 := .of (by kernel_rfl)
theorem c28 : OneC 2147483775 2147483671 := .of (by kernel_rfl)
theorem c32 : OneC 2147483775 2147483687 := .of (by kernel_rfl)
theorem c36 : OneC 2147483775 2147483655 := .of (by kernel_rfl)
theorem c40 : OneC 2147483775 2147483707 := .of (by kernel_rfl)
theorem c44 : OneC 2147483775 2147483675 := .of (by kernel_rfl)
theorem c48 : OneC 2147483775 2147483691 := .of (by kernel_rfl)
theorem c52 : OneC 2147483775 2147483659 := .of (by kernel_rfl)
theorem c56 : OneC 2181054591 2181054515 := .of (by kernel_rfl)
theorem c60 : OneC 2181054591 33570867 := .of (by kernel_rfl)
theorem c64 : OneC 2147483775 2147483731 := .of (by kernel_rfl)
theorem c68 : OneC 2147483775 2147483747 := .of (by kernel_rfl)
theorem c72 : OneC 2147483775 2147483715 := .of (by kernel_rfl)
theorem c76 : OneC 2147483651 2147483649 := .of (by kernel_rfl)
theorem c80 : OneC 2147483651 2147483648 := .of (by kernel_rfl)
end Go.Proofs.YtcachlbljjpjdaaGreatDoor

namespace Go.Proofs.YtcachlbljjpjdaaGreatDoor
open Go Go.Proofs
set_option maxRecDepth 100000
theorem c1 : OneC 2147483775 127 := .of (by kernel_rfl)
theorem c5 : OneC 2147483775 95 := .of (by kernel_rfl)
theorem c9 : OneC 2147483775 111 := .of (by kernel_rfl)
theorem c13 : OneC 2550136959 2147483695 := .of (by kernel_rfl)
theorem c17 : OneC 2550136959 47 := .of (by kernel_rfl)
theorem c21 : OneC 2147483775 15 := .of (by kernel_rfl)
theorem c25 : OneC 2147483775 55 := .of (by kernel_rfl)
theorem c29 : OneC 2147483775 23 := .of (by kernel_rfl)
theorem c33 : OneC 2147483775 39 := .of (by kernel_rfl)
theorem c37 : OneC 2147483775 7 := .of (by kernel_rfl)
theorem c41 : OneC 2147483775 59 := .of (by kernel_rfl)
theorem c45 : OneC 2147483775 27 := .of (by kernel_rfl)
theorem c49 : OneC 2147483775 43 := .of (by kernel_rfl)
theorem c53 : OneC 2147483775 11 := .of (by kernel_rfl)
theorem c57 : OneC 2181054591 2181038131 := .of (by kernel_rfl)
theorem c61 : OneC 2181054591 33554483 := .of (by kernel_rfl)
theorem c65 : OneC 2147483775 83 := .of (by kernel_rfl)
theorem c69 : OneC 2147483775 99 := .of (by kernel_rfl)
theorem c73 : OneC 2147483775 67 := .of (by kernel_rfl)
theorem c77 : OneC 2147483651 1 := .of (by kernel_rfl)
theorem c81 : OneC 2147483651 0 := .of (by kernel_rfl)
end Go.Proofs.YtcachlbljjpjdaaGreatDoor

namespace Go.Proofs.YtcachlbljjpjdaaGreatDoor
open Go Go.Proofs
set_option maxRecDepth 100000
theorem c2 : OneC 2147483775 2147483711 := .of (by kernel_rfl)
theorem c6 : OneC 2147483775 2147483679 := .of (by kernel_rfl)
theorem c10 : OneC 2550136959 2550136879 := .of (by kernel_rfl)
theorem c14 : OneC 2550136959 402653231 := .of (by kernel_rfl)
theorem c18 : OneC 2147483775 2147483727 := .of (by kernel_rfl)
theorem c22 : OneC 2147483775 2147483767 := .of (by kernel_rfl)
theorem c26 : OneC 2147483775 2147483735 := .of (by kernel_rfl)
theorem c30 : OneC 2147483775 2147483751 := .of (by kernel_rfl)
theorem c34 : OneC 2147483775 2147483719 := .of (by kernel_rfl)
theorem c38 : OneC 2147483775 2147483771 := .of (by kernel_rfl)
theorem c42 : OneC 2147483775 2147483739 := .of (by kernel_rfl)
theorem c46 : OneC 2147483775 2147483755 := .of (by kernel_rfl)
theorem c50 : OneC 2147483775 2147483723 := .of (by kernel_rfl)
theorem c54 : OneC 2147483775 2147483763 := .of (by kernel_rfl)
theorem c58 : OneC 2181054591 2147500083 := .of (by kernel_rfl)
theorem c62 : OneC 2181054591 16435 := .of (by kernel_rfl)
theorem c66 : OneC 2147483775 2147483667 := .of (by kernel_rfl)
theorem c70 : OneC 2147483775 2147483683 := .of (by kernel_rfl)
theorem c74 : OneC 2147483775 2147483651 := .of (by kernel_rfl)
theorem c78 : OneC 2147483651 2147483650 := .of (by kernel_rfl)
end Go.Proofs.YtcachlbljjpjdaaGreatDoor

namespace Go.Proofs.YtcachlbljjpjdaaGreatDoor
open Go Go.Proofs
set_option maxRecDepth 100000
theorem c3 : OneC 2147483775 63 := .of (by kernel_rfl)
theorem c7 : OneC 2147483775 31 := .of (by kernel_rfl)
theorem c11 : OneC 2550136959 2281701423 := .of (by kernel_rfl)
theorem c15 : OneC 2550136959 134217775 := .of (by kernel_rfl)
theorem c19 : OneC 2147483775 79 := .of (by kernel_rfl)
theorem c23 : OneC 2147483775 119 := .of (by kernel_rfl)
theorem c27 : OneC 2147483775 87 := .of (by kernel_rfl)
theorem c31 : OneC 2147483775 103 := .of (by kernel_rfl)
theorem c35 : OneC 2147483775 71 := .of (by kernel_rfl)
theorem c39 : OneC 2147483775 123 := .of (by kernel_rfl)
theorem c43 : OneC 2147483775 91 := .of (by kernel_rfl)
theorem c47 : OneC 2147483775 107 := .of (by kernel_rfl)
theorem c51 : OneC 2147483775 75 := .of (by kernel_rfl)
theorem c55 : OneC 2147483775 115 := .of (by kernel_rfl)
theorem c59 : OneC 2181054591 2147483699 := .of (by kernel_rfl)
theorem c63 : OneC 2181054591 51 := .of (by kernel_rfl)
theorem c67 : OneC 2147483775 19 := .of (by kernel_rfl)
theorem c71 : OneC 2147483775 35 := .of (by kernel_rfl)
theorem c75 : OneC 2147483775 3 := .of (by kernel_rfl)
theorem c79 : OneC 2147483651 2 := .of (by kernel_rfl)
end Go.Proofs.YtcachlbljjpjdaaGreatDoor

namespace Go.Proofs.YtcachlbljjpjdaaGreatDoor
open Go Go.Proofs
set_option maxRecDepth 100000
theorem one_all : ∃ c, Cut.All oneC c 0 0 := ⟨_, (.both 0 (.both 1 (.both 2 (.both 3 (.both 4 (.both 5 (.both 6 (.both 31 (.one c0) (.one c1)) (.both 31 (.one c2) (.one c3))) (.both 6 (.both 31 (.one c4) (.one c5)) (.both 31 (.one c6) (.one c7)))) (.both 5 (.both 6 (.both 31 (.one c8) (.one c9)) (.both 31 (.both 27 (.both 28 (.one c10) (.one c11)) (.both 28 (.one c12) (.one c13))) (.both 27 (.both 28 (.one c14) (.one c15)) (.both 28 (.one c16) (.one c17))))) (.both 6 (.both 31 (.one c18) (.one c19)) (.both 31 (.one c20) (.one c21))))) (.both 4 (.both 5 (.both 6 (.both 31 (.one c22) (.one c23)) (.both 31 (.one c24) (.one c25))) (.both 6 (.both 31 (.one c26) (.one c27)) (.both 31 (.one c28) (.one c29)))) (.both 5 (.both 6 (.both 31 (.one c30) (.one c31)) (.both 31 (.one c32) (.one c33))) (.both 6 (.both 31 (.one c34) (.one c35)) (.both 31 (.one c36) (.one c37)))))) (.both 3 (.both 4 (.both 5 (.both 6 (.both 31 (.one c38) (.one c39)) (.both 31 (.one c40) (.one c41))) (.both 6 (.both 31 (.one c42) (.one c43)) (.both 31 (.one c44) (.one c45)))) (.both 5 (.both 6 (.both 31 (.one c46) (.one c47)) (.both 31 (.one c48) (.one c49))) (.both 6 (.both 31 (.one c50) (.one c51)) (.both 31 (.one c52) (.one c53))))) (.both 4 (.both 5 (.both 6 (.both 31 (.one c54) (.one c55)) (.both 31 (.both 25 (.both 14 (.one c56) (.one c57)) (.both 14 (.one c58) (.one c59))) (.both 25 (.both 14 (.one c60) (.one c61)) (.both 14 (.one c62) (.one c63))))) (.both 6 (.both 31 (.one c64) (.one c65)) (.both 31 (.one c66) (.one c67)))) (.both 5 (.both 6 (.both 31 (.one c68) (.one c69)) (.both 31 (.one c70) (.one c71))) (.both 6 (.both 31 (.one c72) (.one c73)) (.both 31 (.one c74) (.one c75))))))) (.both 31 (.one c76) (.one c77))) (.both 1 (.both 31 (.one c78) (.one c79)) (.both 31 (.one c80) (.one c81))))⟩
end Go.Proofs.YtcachlbljjpjdaaGreatDoor
