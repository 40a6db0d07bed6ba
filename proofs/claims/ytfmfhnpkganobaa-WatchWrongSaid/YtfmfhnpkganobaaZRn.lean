/- WatchWrong: the other runs; all of them. No condition. -/
import Derived.Test.YtfmfhnpkganobaaZRn1
import Derived.Test.YtfmfhnpkganobaaZRn2
import Derived.Test.YtfmfhnpkganobaaZRn3
import Derived.Test.YtfmfhnpkganobaaZRn4
set_option maxRecDepth 100000
namespace Go.Proofs.Ytfmfhnpkganobaa
open Go Go.Proofs Go.RowKit
theorem runO0_0_false:runW false 0 0 0=true:=by kernel_rfl
theorem runO1_0_false:runW false 1 0 0=true:=by kernel_rfl
theorem runO6_0_false:runW false 6 0 0=true:=by kernel_rfl
theorem runO0_1_false:runW false 0 1 0=true:=by kernel_rfl
theorem runO1_1_false:runW false 1 1 0=true:=by kernel_rfl
theorem runO6_1_false:runW false 6 1 0=true:=by kernel_rfl
theorem runO0_2_false:runW false 0 2 0=true:=by kernel_rfl
theorem runO1_2_false:runW false 1 2 0=true:=by kernel_rfl
theorem runO6_2_false:runW false 6 2 0=true:=by kernel_rfl
theorem runO0_0_true:runW true 0 0 0=true:=by kernel_rfl
theorem runO1_0_true:runW true 1 0 0=true:=by kernel_rfl
theorem runO6_0_true:runW true 6 0 0=true:=by kernel_rfl
theorem runO0_1_true:runW true 0 1 0=true:=by kernel_rfl
theorem runO1_1_true:runW true 1 1 0=true:=by kernel_rfl
theorem runO6_1_true:runW true 6 1 0=true:=by kernel_rfl
theorem runO0_2_true:runW true 0 2 0=true:=by kernel_rfl
theorem runO1_2_true:runW true 1 2 0=true:=by kernel_rfl
theorem runO6_2_true:runW true 6 2 0=true:=by kernel_rfl
theorem runO_all{z:Bool}{c i:Nat}(hc:c=0∨c=1∨c=6)(hi:i<3):runW z c i 0=true:=by
 rcases hc with rfl | rfl | rfl
 ·match z,i,hi with
  | false,0,_=>exact runO0_0_false
  | false,1,_=>exact runO0_1_false
  | false,2,_=>exact runO0_2_false
  | true,0,_=>exact runO0_0_true
  | true,1,_=>exact runO0_1_true
  | true,2,_=>exact runO0_2_true
 ·match z,i,hi with
  | false,0,_=>exact runO1_0_false
  | false,1,_=>exact runO1_1_false
  | false,2,_=>exact runO1_2_false
  | true,0,_=>exact runO1_0_true
  | true,1,_=>exact runO1_1_true
  | true,2,_=>exact runO1_2_true
 ·match z,i,hi with
  | false,0,_=>exact runO6_0_false
  | false,1,_=>exact runO6_1_false
  | false,2,_=>exact runO6_2_false
  | true,0,_=>exact runO6_0_true
  | true,1,_=>exact runO6_1_true
  | true,2,_=>exact runO6_2_true
end Go.Proofs.Ytfmfhnpkganobaa
