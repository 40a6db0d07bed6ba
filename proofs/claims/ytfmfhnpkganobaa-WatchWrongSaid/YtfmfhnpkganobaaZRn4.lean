/- WatchWrong: the runs of 4 codes. No condition. -/
import Derived.Test.YtfmfhnpkganobaaZDef
set_option maxRecDepth 100000
namespace Go.Proofs.Ytfmfhnpkganobaa
open Go Go.Proofs Go.RowKit
theorem run4_1_false:runW false 5 2 1=true:=by kernel_rfl
theorem run4_2_false:runW false 5 2 2=true:=by kernel_rfl
theorem run4_3_false:runW false 5 2 3=true:=by kernel_rfl
theorem run4_4_false:runW false 5 2 4=true:=by kernel_rfl
theorem run4_5_false:runW false 5 2 5=true:=by kernel_rfl
theorem run4_6_false:runW false 5 2 6=true:=by kernel_rfl
theorem run4_7_false:runW false 5 2 7=true:=by kernel_rfl
theorem run4_8_false:runW false 5 2 8=true:=by kernel_rfl
theorem run4_9_false:runW false 5 2 9=true:=by kernel_rfl
theorem run4_10_false:runW false 5 2 10=true:=by kernel_rfl
theorem run4_1_true:runW true 5 2 1=true:=by kernel_rfl
theorem run4_2_true:runW true 5 2 2=true:=by kernel_rfl
theorem run4_3_true:runW true 5 2 3=true:=by kernel_rfl
theorem run4_4_true:runW true 5 2 4=true:=by kernel_rfl
theorem run4_5_true:runW true 5 2 5=true:=by kernel_rfl
theorem run4_6_true:runW true 5 2 6=true:=by kernel_rfl
theorem run4_7_true:runW true 5 2 7=true:=by kernel_rfl
theorem run4_8_true:runW true 5 2 8=true:=by kernel_rfl
theorem run4_9_true:runW true 5 2 9=true:=by kernel_rfl
theorem run4_10_true:runW true 5 2 10=true:=by kernel_rfl
theorem run4_all{z:Bool}{s:Nat}(h1:1≤s)(hs:s<11):runW z 5 2 s=true:=by
 match z,s,h1,hs with
 | false,1,_,_=>exact run4_1_false
 | false,2,_,_=>exact run4_2_false
 | false,3,_,_=>exact run4_3_false
 | false,4,_,_=>exact run4_4_false
 | false,5,_,_=>exact run4_5_false
 | false,6,_,_=>exact run4_6_false
 | false,7,_,_=>exact run4_7_false
 | false,8,_,_=>exact run4_8_false
 | false,9,_,_=>exact run4_9_false
 | false,10,_,_=>exact run4_10_false
 | true,1,_,_=>exact run4_1_true
 | true,2,_,_=>exact run4_2_true
 | true,3,_,_=>exact run4_3_true
 | true,4,_,_=>exact run4_4_true
 | true,5,_,_=>exact run4_5_true
 | true,6,_,_=>exact run4_6_true
 | true,7,_,_=>exact run4_7_true
 | true,8,_,_=>exact run4_8_true
 | true,9,_,_=>exact run4_9_true
 | true,10,_,_=>exact run4_10_true
end Go.Proofs.Ytfmfhnpkganobaa
