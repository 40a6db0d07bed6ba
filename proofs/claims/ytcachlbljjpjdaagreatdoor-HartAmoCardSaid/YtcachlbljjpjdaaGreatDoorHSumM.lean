/- What some functions leave, by runs. What some functions leave, by runs. No condition. -/
import Derived.Test.YtcachlbljjpjdaaGreatDoorHSumC
namespace Go.Proofs.YtcachlbljjpjdaaGreatDoor
open Go Go.Proofs
set_option maxRecDepth 100000
def sum48_a0 : List V := [instX (.lit (Int.ofNat 1)) (wordX 0 5) (wordX 5 5) (wordX 10 5)]
def sum48_r0 : R Leaf := (.br (.cube 992 0)
 (.br (.cube 31744 0)
  (.br (.cube 140737488355328 140737488355328)
   (.ok { v := (.bool (.lit (0))), objs := [], n := 8 })
   (.br (.cube 281474976710656 281474976710656)
    (.ok { v := (.bool (.lit (0))), objs := [], n := 8 })
    (.br (.cube 70368744177664 70368744177664)
     (.ok { v := (.bool (.cube 134184960 0)), objs := [], n := 8 })
     (.ok { v := (.bool (.cube 134184960 0)), objs := [], n := 8 }))))
  (.ok { v := (.bool (.lit (0))), objs := [], n := 8 }))
 (.ok { v := (.bool (.lit (0))), objs := [], n := 8 }))
theorem sum48_0 : leafOf LStart 7 ((ev cx40 4000).call 48 sum48_a0 (stG LStart 7)) = sum48_r0 := by kernel_rfl
def sum48_a1 : List V := [instX (.lit (Int.ofNat 2)) (wordX 0 5) (wordX 5 5) (wordX 10 5)]
def sum48_r1 : R Leaf := (.br (.cube 992 0)
 (.br (.cube 31744 0)
  (.br (.cube 140737488355328 140737488355328)
   (.ok { v := (.bool (.lit (0))), objs := [], n := 8 })
   (.br (.cube 281474976710656 281474976710656)
    (.ok { v := (.bool (.lit (0))), objs := [], n := 8 })
    (.br (.cube 70368744177664 70368744177664)
     (.ok { v := (.bool (.cube 134184960 0)), objs := [], n := 8 })
     (.ok { v := (.bool (.cube 134184960 0)), objs := [], n := 8 }))))
  (.ok { v := (.bool (.lit (0))), objs := [], n := 8 }))
 (.ok { v := (.bool (.lit (0))), objs := [], n := 8 }))
theorem sum48_1 : leafOf LStart 7 ((ev cx40 4000).call 48 sum48_a1 (stG LStart 7)) = sum48_r1 := by kernel_rfl
def sum48_a2 : List V := [instX (.lit (Int.ofNat 3)) (wordX 0 5) (wordX 5 5) (wordX 10 5)]
def sum48_r2 : R Leaf := (.br (.cube 992 0)
 (.br (.cube 31744 0)
  (.br (.cube 140737488355328 140737488355328)
   (.ok { v := (.bool (.lit (0))), objs := [], n := 8 })
   (.br (.cube 281474976710656 281474976710656)
    (.ok { v := (.bool (.lit (0))), objs := [], n := 8 })
    (.br (.cube 70368744177664 70368744177664)
     (.br (.cube 32768 0)
      (.br (.cube 70334384439296 70334384439296)
       (.ok { v := (.bool (.lit (1))), objs := [], n := 8 })
       (.ok { v := (.bool (.lit (0))), objs := [], n := 8 }))
      (.ok { v := (.bool (.lit (0))), objs := [], n := 8 }))
     (.br (.cube 32768 0)
      (.ok { v := (.bool (.cube 70334384439296 0)), objs := [], n := 8 })
      (.ok { v := (.bool (.lit (0))), objs := [], n := 8 })))))
  (.ok { v := (.bool (.lit (0))), objs := [], n := 8 }))
 (.ok { v := (.bool (.lit (0))), objs := [], n := 8 }))
theorem sum48_2 : leafOf LStart 7 ((ev cx40 4000).call 48 sum48_a2 (stG LStart 7)) = sum48_r2 := by kernel_rfl
def sum48_a3 : List V := [instX (.lit (Int.ofNat 4)) (wordX 0 5) (wordX 5 5) (wordX 10 5)]
def sum48_r3 : R Leaf := (.br (.cube 31744 0)
 (.br (.cube 140737488355328 140737488355328)
  (.ok { v := (.bool (.lit (0))), objs := [], n := 8 })
  (.br (.cube 281474976710656 281474976710656)
   (.ok { v := (.bool (.lit (0))), objs := [], n := 8 })
   (.br (.cube 70368744177664 70368744177664)
    (.br (.cube 70368677068800 70368677068800)
     (.ok { v := (.bool (.lit (1))), objs := [], n := 8 })
     (.ok { v := (.bool (.lit (0))), objs := [], n := 8 }))
    (.ok { v := (.bool (.cube 70368677068800 0)), objs := [], n := 8 }))))
 (.ok { v := (.bool (.lit (0))), objs := [], n := 8 }))
theorem sum48_3 : leafOf LStart 7 ((ev cx40 4000).call 48 sum48_a3 (stG LStart 7)) = sum48_r3 := by kernel_rfl
def sum48_a4 : List V := [instX (.lit (Int.ofNat 5)) (wordX 0 5) (wordX 5 5) (wordX 10 5)]
def sum48_r4 : R Leaf := (.br (.cube 31 0)
 (.br (.cube 140737488355328 140737488355328)
  (.ok { v := (.bool (.lit (0))), objs := [], n := 8 })
  (.br (.cube 281474976710656 281474976710656)
   (.ok { v := (.bool (.lit (0))), objs := [], n := 8 })
   (.br (.cube 70368744177664 70368744177664)
    (.br (.cube 32768 0)
     (.br (.cube 70368609959936 70368609959936)
      (.ok { v := (.bool (.lit (1))), objs := [], n := 8 })
      (.ok { v := (.bool (.lit (0))), objs := [], n := 8 }))
     (.ok { v := (.bool (.lit (0))), objs := [], n := 8 }))
    (.br (.cube 32768 0)
     (.ok { v := (.bool (.cube 70368609959936 0)), objs := [], n := 8 })
     (.ok { v := (.bool (.lit (0))), objs := [], n := 8 })))))
 (.ok { v := (.bool (.lit (0))), objs := [], n := 8 }))
theorem sum48_4 : leafOf LStart 7 ((ev cx40 4000).call 48 sum48_a4 (stG LStart 7)) = sum48_r4 := by kernel_rfl
def sum48_a5 : List V := [instX (.lit (Int.ofNat 6)) (wordX 0 5) (wordX 5 5) (wordX 10 5)]
def sum48_r5 : R Leaf := (.br (.cube 31 0)
 (.br (.cube 140737488355328 140737488355328)
  (.ok { v := (.bool (.lit (0))), objs := [], n := 8 })
  (.br (.cube 281474976710656 281474976710656)
   (.ok { v := (.bool (.lit (0))), objs := [], n := 8 })
   (.br (.cube 70368744177664 70368744177664)
    (.br (.cube 32768 0)
     (.br (.cube 70368609959936 70368609959936)
      (.ok { v := (.bool (.lit (1))), objs := [], n := 8 })
      (.ok { v := (.bool (.lit (0))), objs := [], n := 8 }))
     (.ok { v := (.bool (.lit (0))), objs := [], n := 8 }))
    (.br (.cube 32768 0)
     (.ok { v := (.bool (.cube 70368609959936 0)), objs := [], n := 8 })
     (.ok { v := (.bool (.lit (0))), objs := [], n := 8 })))))
 (.ok { v := (.bool (.lit (0))), objs := [], n := 8 }))
theorem sum48_5 : leafOf LStart 7 ((ev cx40 4000).call 48 sum48_a5 (stG LStart 7)) = sum48_r5 := by kernel_rfl
def sum48_a6 : List V := [instX (.lit (Int.ofNat 7)) (wordX 0 5) (wordX 5 5) (wordX 10 5)]
def sum48_r6 : R Leaf := (.br (.cube 31 0)
 (.br (.cube 140737488355328 140737488355328)
  (.ok { v := (.bool (.lit (0))), objs := [], n := 8 })
  (.br (.cube 281474976710656 281474976710656)
   (.ok { v := (.bool (.lit (0))), objs := [], n := 8 })
   (.br (.cube 70368744177664 70368744177664)
    (.br (.cube 32768 0)
     (.br (.cube 70368609959936 70368609959936)
      (.ok { v := (.bool (.lit (1))), objs := [], n := 8 })
      (.ok { v := (.bool (.lit (0))), objs := [], n := 8 }))
     (.ok { v := (.bool (.lit (0))), objs := [], n := 8 }))
    (.br (.cube 32768 0)
     (.ok { v := (.bool (.cube 70368609959936 0)), objs := [], n := 8 })
     (.ok { v := (.bool (.lit (0))), objs := [], n := 8 })))))
 (.ok { v := (.bool (.lit (0))), objs := [], n := 8 }))
theorem sum48_6 : leafOf LStart 7 ((ev cx40 4000).call 48 sum48_a6 (stG LStart 7)) = sum48_r6 := by kernel_rfl
def sum48_a7 : List V := [instX (.lit (Int.ofNat 8)) (wordX 0 5) (wordX 5 5) (wordX 10 5)]
def sum48_r7 : R Leaf := (.br (.cube 31 0)
 (.br (.cube 140737488355328 140737488355328)
  (.ok { v := (.bool (.lit (0))), objs := [], n := 8 })
  (.br (.cube 281474976710656 281474976710656)
   (.ok { v := (.bool (.lit (0))), objs := [], n := 8 })
   (.br (.cube 70368744177664 70368744177664)
    (.br (.cube 32768 0)
     (.br (.cube 70368609959936 70368609959936)
      (.ok { v := (.bool (.lit (1))), objs := [], n := 8 })
      (.ok { v := (.bool (.lit (0))), objs := [], n := 8 }))
     (.ok { v := (.bool (.lit (0))), objs := [], n := 8 }))
    (.br (.cube 32768 0)
     (.ok { v := (.bool (.cube 70368609959936 0)), objs := [], n := 8 })
     (.ok { v := (.bool (.lit (0))), objs := [], n := 8 })))))
 (.ok { v := (.bool (.lit (0))), objs := [], n := 8 }))
theorem sum48_7 : leafOf LStart 7 ((ev cx40 4000).call 48 sum48_a7 (stG LStart 7)) = sum48_r7 := by kernel_rfl
def sum48_a8 : List V := [instX (.lit (Int.ofNat 9)) (wordX 0 5) (wordX 5 5) (wordX 10 5)]
def sum48_r8 : R Leaf := (.br (.cube 31 0)
 (.br (.cube 140737488355328 140737488355328)
  (.ok { v := (.bool (.lit (0))), objs := [], n := 8 })
  (.br (.cube 281474976710656 281474976710656)
   (.ok { v := (.bool (.lit (0))), objs := [], n := 8 })
   (.br (.cube 70368744177664 70368744177664)
    (.br (.cube 32768 0)
     (.br (.cube 70368609959936 70368609959936)
      (.ok { v := (.bool (.lit (1))), objs := [], n := 8 })
      (.ok { v := (.bool (.lit (0))), objs := [], n := 8 }))
     (.ok { v := (.bool (.lit (0))), objs := [], n := 8 }))
    (.br (.cube 32768 0)
     (.ok { v := (.bool (.cube 70368609959936 0)), objs := [], n := 8 })
     (.ok { v := (.bool (.lit (0))), objs := [], n := 8 })))))
 (.ok { v := (.bool (.lit (0))), objs := [], n := 8 }))
theorem sum48_8 : leafOf LStart 7 ((ev cx40 4000).call 48 sum48_a8 (stG LStart 7)) = sum48_r8 := by kernel_rfl
def sum48_a9 : List V := [instX (.lit (Int.ofNat 10)) (wordX 0 5) (wordX 5 5) (wordX 10 5)]
def sum48_r9 : R Leaf := (.br (.cube 31 0)
 (.br (.cube 140737488355328 140737488355328)
  (.ok { v := (.bool (.lit (0))), objs := [], n := 8 })
  (.br (.cube 281474976710656 281474976710656)
   (.ok { v := (.bool (.lit (0))), objs := [], n := 8 })
   (.br (.cube 70368744177664 70368744177664)
    (.br (.cube 32768 0)
     (.br (.cube 70368609959936 70368609959936)
      (.ok { v := (.bool (.lit (1))), objs := [], n := 8 })
      (.ok { v := (.bool (.lit (0))), objs := [], n := 8 }))
     (.ok { v := (.bool (.lit (0))), objs := [], n := 8 }))
    (.br (.cube 32768 0)
     (.ok { v := (.bool (.cube 70368609959936 0)), objs := [], n := 8 })
     (.ok { v := (.bool (.lit (0))), objs := [], n := 8 })))))
 (.ok { v := (.bool (.lit (0))), objs := [], n := 8 }))
theorem sum48_9 : leafOf LStart 7 ((ev cx40 4000).call 48 sum48_a9 (stG LStart 7)) = sum48_r9 := by kernel_rfl
def sum48_a10 : List V := [instX (.lit (Int.ofNat 11)) (wordX 0 5) (wordX 5 5) (wordX 10 5)]
def sum48_r10 : R Leaf := (.br (.cube 31744 0)
 (.br (.cube 140737488355328 140737488355328)
  (.ok { v := (.bool (.lit (0))), objs := [], n := 8 })
  (.br (.cube 281474976710656 281474976710656)
   (.ok { v := (.bool (.lit (0))), objs := [], n := 8 })
   (.br (.cube 70368744177664 70368744177664)
    (.br (.cube 70368677068800 70368677068800)
     (.ok { v := (.bool (.lit (1))), objs := [], n := 8 })
     (.ok { v := (.bool (.lit (0))), objs := [], n := 8 }))
    (.ok { v := (.bool (.cube 70368677068800 0)), objs := [], n := 8 }))))
 (.ok { v := (.bool (.lit (0))), objs := [], n := 8 }))
theorem sum48_10 : leafOf LStart 7 ((ev cx40 4000).call 48 sum48_a10 (stG LStart 7)) = sum48_r10 := by kernel_rfl
def sum48_a11 : List V := [instX (.lit (Int.ofNat 12)) (wordX 0 5) (wordX 5 5) (wordX 10 5)]
def sum48_r11 : R Leaf := (.br (.cube 31744 0)
 (.br (.cube 140737488355328 140737488355328)
  (.ok { v := (.bool (.lit (0))), objs := [], n := 8 })
  (.br (.cube 281474976710656 281474976710656)
   (.ok { v := (.bool (.lit (0))), objs := [], n := 8 })
   (.br (.cube 70368744177664 70368744177664)
    (.br (.cube 70368677068800 70368677068800)
     (.ok { v := (.bool (.lit (1))), objs := [], n := 8 })
     (.ok { v := (.bool (.lit (0))), objs := [], n := 8 }))
    (.ok { v := (.bool (.cube 70368677068800 0)), objs := [], n := 8 }))))
 (.ok { v := (.bool (.lit (0))), objs := [], n := 8 }))
theorem sum48_11 : leafOf LStart 7 ((ev cx40 4000).call 48 sum48_a11 (stG LStart 7)) = sum48_r11 := by kernel_rfl
def sum48_a12 : List V := [instX (.lit (Int.ofNat 13)) (wordX 0 5) (wordX 5 5) (wordX 10 5)]
def sum48_r12 : R Leaf := (.br (.cube 31744 0)
 (.br (.cube 140737488355328 140737488355328)
  (.ok { v := (.bool (.lit (0))), objs := [], n := 8 })
  (.br (.cube 281474976710656 281474976710656)
   (.ok { v := (.bool (.lit (0))), objs := [], n := 8 })
   (.br (.cube 70368744177664 70368744177664)
    (.br (.cube 70368677068800 70368677068800)
     (.ok { v := (.bool (.lit (1))), objs := [], n := 8 })
     (.ok { v := (.bool (.lit (0))), objs := [], n := 8 }))
    (.ok { v := (.bool (.cube 70368677068800 0)), objs := [], n := 8 }))))
 (.ok { v := (.bool (.lit (0))), objs := [], n := 8 }))
theorem sum48_12 : leafOf LStart 7 ((ev cx40 4000).call 48 sum48_a12 (stG LStart 7)) = sum48_r12 := by kernel_rfl
def sum48_a13 : List V := [instX (.lit (Int.ofNat 14)) (wordX 0 5) (wordX 5 5) (wordX 10 5)]
def sum48_r13 : R Leaf := (.br (.cube 31744 0)
 (.br (.cube 140737488355328 140737488355328)
  (.ok { v := (.bool (.lit (0))), objs := [], n := 8 })
  (.br (.cube 281474976710656 281474976710656)
   (.ok { v := (.bool (.lit (0))), objs := [], n := 8 })
   (.br (.cube 70368744177664 70368744177664)
    (.br (.cube 70368677068800 70368677068800)
     (.ok { v := (.bool (.lit (1))), objs := [], n := 8 })
     (.ok { v := (.bool (.lit (0))), objs := [], n := 8 }))
    (.ok { v := (.bool (.cube 70368677068800 0)), objs := [], n := 8 }))))
 (.ok { v := (.bool (.lit (0))), objs := [], n := 8 }))
theorem sum48_13 : leafOf LStart 7 ((ev cx40 4000).call 48 sum48_a13 (stG LStart 7)) = sum48_r13 := by kernel_rfl
def sum48_a14 : List V := [instX (.lit (Int.ofNat 15)) (wordX 0 5) (wordX 5 5) (wordX 10 5)]
def sum48_r14 : R Leaf := (.br (.cube 31744 0)
 (.br (.cube 140737488355328 140737488355328)
  (.ok { v := (.bool (.lit (0))), objs := [], n := 8 })
  (.br (.cube 281474976710656 281474976710656)
   (.ok { v := (.bool (.lit (0))), objs := [], n := 8 })
   (.br (.cube 70368744177664 70368744177664)
    (.br (.cube 70368677068800 70368677068800)
     (.ok { v := (.bool (.lit (1))), objs := [], n := 8 })
     (.ok { v := (.bool (.lit (0))), objs := [], n := 8 }))
    (.ok { v := (.bool (.cube 70368677068800 0)), objs := [], n := 8 }))))
 (.ok { v := (.bool (.lit (0))), objs := [], n := 8 }))
theorem sum48_14 : leafOf LStart 7 ((ev cx40 4000).call 48 sum48_a14 (stG LStart 7)) = sum48_r14 := by kernel_rfl
def sum48_a15 : List V := [instX (.lit (Int.ofNat 16)) (wordX 0 5) (wordX 5 5) (wordX 10 5)]
def sum48_r15 : R Leaf := (.br (.cube 31 0)
 (.br (.cube 140737488355328 140737488355328)
  (.ok { v := (.bool (.lit (0))), objs := [], n := 8 })
  (.br (.cube 281474976710656 281474976710656)
   (.ok { v := (.bool (.lit (0))), objs := [], n := 8 })
   (.br (.cube 70368744177664 70368744177664)
    (.br (.cube 70368677068800 70368677068800)
     (.ok { v := (.bool (.lit (1))), objs := [], n := 8 })
     (.ok { v := (.bool (.lit (0))), objs := [], n := 8 }))
    (.ok { v := (.bool (.cube 70368677068800 0)), objs := [], n := 8 }))))
 (.ok { v := (.bool (.lit (0))), objs := [], n := 8 }))
theorem sum48_15 : leafOf LStart 7 ((ev cx40 4000).call 48 sum48_a15 (stG LStart 7)) = sum48_r15 := by kernel_rfl
def sum48_a16 : List V := [instX (.lit (Int.ofNat 17)) (wordX 0 5) (wordX 5 5) (wordX 10 5)]
def sum48_r16 : R Leaf := (.br (.cube 31 0)
 (.br (.cube 140737488355328 140737488355328)
  (.ok { v := (.bool (.lit (0))), objs := [], n := 8 })
  (.br (.cube 281474976710656 281474976710656)
   (.ok { v := (.bool (.lit (0))), objs := [], n := 8 })
   (.br (.cube 70368744177664 70368744177664)
    (.br (.cube 70368677068800 70368677068800)
     (.ok { v := (.bool (.lit (1))), objs := [], n := 8 })
     (.ok { v := (.bool (.lit (0))), objs := [], n := 8 }))
    (.ok { v := (.bool (.cube 70368677068800 0)), objs := [], n := 8 }))))
 (.ok { v := (.bool (.lit (0))), objs := [], n := 8 }))
theorem sum48_16 : leafOf LStart 7 ((ev cx40 4000).call 48 sum48_a16 (stG LStart 7)) = sum48_r16 := by kernel_rfl
def sum48_a17 : List V := [instX (.lit (Int.ofNat 18)) (wordX 0 5) (wordX 5 5) (wordX 10 5)]
def sum48_r17 : R Leaf := (.br (.cube 31 0)
 (.br (.cube 140737488355328 140737488355328)
  (.ok { v := (.bool (.lit (0))), objs := [], n := 8 })
  (.br (.cube 281474976710656 281474976710656)
   (.ok { v := (.bool (.lit (0))), objs := [], n := 8 })
   (.br (.cube 70368744177664 70368744177664)
    (.br (.cube 70368677068800 70368677068800)
     (.ok { v := (.bool (.lit (1))), objs := [], n := 8 })
     (.ok { v := (.bool (.lit (0))), objs := [], n := 8 }))
    (.ok { v := (.bool (.cube 70368677068800 0)), objs := [], n := 8 }))))
 (.ok { v := (.bool (.lit (0))), objs := [], n := 8 }))
theorem sum48_17 : leafOf LStart 7 ((ev cx40 4000).call 48 sum48_a17 (stG LStart 7)) = sum48_r17 := by kernel_rfl
def sum48_a18 : List V := [instX (.lit (Int.ofNat 19)) (wordX 0 5) (wordX 5 5) (wordX 10 5)]
def sum48_r18 : R Leaf := (.br (.cube 31744 0)
 (.br (.cube 140737488355328 140737488355328)
  (.ok { v := (.bool (.lit (0))), objs := [], n := 8 })
  (.br (.cube 281474976710656 281474976710656)
   (.ok { v := (.bool (.lit (0))), objs := [], n := 8 })
   (.br (.cube 70368744177664 70368744177664)
    (.br (.cube 70368677068800 70368677068800)
     (.ok { v := (.bool (.lit (1))), objs := [], n := 8 })
     (.ok { v := (.bool (.lit (0))), objs := [], n := 8 }))
    (.ok { v := (.bool (.cube 70368677068800 0)), objs := [], n := 8 }))))
 (.ok { v := (.bool (.lit (0))), objs := [], n := 8 }))
theorem sum48_18 : leafOf LStart 7 ((ev cx40 4000).call 48 sum48_a18 (stG LStart 7)) = sum48_r18 := by kernel_rfl
def sum48_a19 : List V := [instX (.lit (Int.ofNat 20)) (wordX 0 5) (wordX 5 5) (wordX 10 5)]
def sum48_r19 : R Leaf := (.br (.cube 31744 0)
 (.br (.cube 140737488355328 140737488355328)
  (.ok { v := (.bool (.lit (0))), objs := [], n := 8 })
  (.br (.cube 281474976710656 281474976710656)
   (.ok { v := (.bool (.lit (0))), objs := [], n := 8 })
   (.br (.cube 70368744177664 70368744177664)
    (.br (.cube 70368677068800 70368677068800)
     (.ok { v := (.bool (.lit (1))), objs := [], n := 8 })
     (.ok { v := (.bool (.lit (0))), objs := [], n := 8 }))
    (.ok { v := (.bool (.cube 70368677068800 0)), objs := [], n := 8 }))))
 (.ok { v := (.bool (.lit (0))), objs := [], n := 8 }))
theorem sum48_19 : leafOf LStart 7 ((ev cx40 4000).call 48 sum48_a19 (stG LStart 7)) = sum48_r19 := by kernel_rfl
def sum48_a20 : List V := [instX (.lit (Int.ofNat 21)) (wordX 0 5) (wordX 5 5) (wordX 10 5)]
def sum48_r20 : R Leaf := (.br (.cube 31744 0)
 (.br (.cube 140737488355328 140737488355328)
  (.ok { v := (.bool (.lit (0))), objs := [], n := 8 })
  (.br (.cube 281474976710656 281474976710656)
   (.ok { v := (.bool (.lit (0))), objs := [], n := 8 })
   (.br (.cube 70368744177664 70368744177664)
    (.br (.cube 70368677068800 70368677068800)
     (.ok { v := (.bool (.lit (1))), objs := [], n := 8 })
     (.ok { v := (.bool (.lit (0))), objs := [], n := 8 }))
    (.ok { v := (.bool (.cube 70368677068800 0)), objs := [], n := 8 }))))
 (.ok { v := (.bool (.lit (0))), objs := [], n := 8 }))
theorem sum48_20 : leafOf LStart 7 ((ev cx40 4000).call 48 sum48_a20 (stG LStart 7)) = sum48_r20 := by kernel_rfl
def sum48_a21 : List V := [instX (.lit (Int.ofNat 22)) (wordX 0 5) (wordX 5 5) (wordX 10 5)]
def sum48_r21 : R Leaf := (.br (.cube 31744 0)
 (.br (.cube 140737488355328 140737488355328)
  (.ok { v := (.bool (.lit (0))), objs := [], n := 8 })
  (.br (.cube 281474976710656 281474976710656)
   (.ok { v := (.bool (.lit (0))), objs := [], n := 8 })
   (.br (.cube 70368744177664 70368744177664)
    (.br (.cube 70368677068800 70368677068800)
     (.ok { v := (.bool (.lit (1))), objs := [], n := 8 })
     (.ok { v := (.bool (.lit (0))), objs := [], n := 8 }))
    (.ok { v := (.bool (.cube 70368677068800 0)), objs := [], n := 8 }))))
 (.ok { v := (.bool (.lit (0))), objs := [], n := 8 }))
theorem sum48_21 : leafOf LStart 7 ((ev cx40 4000).call 48 sum48_a21 (stG LStart 7)) = sum48_r21 := by kernel_rfl
def sum48_a22 : List V := [instX (.lit (Int.ofNat 23)) (wordX 0 5) (wordX 5 5) (wordX 10 5)]
def sum48_r22 : R Leaf := (.br (.cube 31744 0)
 (.br (.cube 140737488355328 140737488355328)
  (.ok { v := (.bool (.lit (0))), objs := [], n := 8 })
  (.br (.cube 281474976710656 281474976710656)
   (.ok { v := (.bool (.lit (0))), objs := [], n := 8 })
   (.br (.cube 70368744177664 70368744177664)
    (.br (.cube 70368677068800 70368677068800)
     (.ok { v := (.bool (.lit (1))), objs := [], n := 8 })
     (.ok { v := (.bool (.lit (0))), objs := [], n := 8 }))
    (.ok { v := (.bool (.cube 70368677068800 0)), objs := [], n := 8 }))))
 (.ok { v := (.bool (.lit (0))), objs := [], n := 8 }))
theorem sum48_22 : leafOf LStart 7 ((ev cx40 4000).call 48 sum48_a22 (stG LStart 7)) = sum48_r22 := by kernel_rfl
def sum48_a23 : List V := [instX (.lit (Int.ofNat 24)) (wordX 0 5) (wordX 5 5) (wordX 10 5)]
def sum48_r23 : R Leaf := (.br (.cube 31744 0)
 (.br (.cube 140737488355328 140737488355328)
  (.ok { v := (.bool (.lit (0))), objs := [], n := 8 })
  (.br (.cube 281474976710656 281474976710656)
   (.ok { v := (.bool (.lit (0))), objs := [], n := 8 })
   (.br (.cube 70368744177664 70368744177664)
    (.br (.cube 70368677068800 70368677068800)
     (.ok { v := (.bool (.lit (1))), objs := [], n := 8 })
     (.ok { v := (.bool (.lit (0))), objs := [], n := 8 }))
    (.ok { v := (.bool (.cube 70368677068800 0)), objs := [], n := 8 }))))
 (.ok { v := (.bool (.lit (0))), objs := [], n := 8 }))
theorem sum48_23 : leafOf LStart 7 ((ev cx40 4000).call 48 sum48_a23 (stG LStart 7)) = sum48_r23 := by kernel_rfl
def sum48_a24 : List V := [instX (.lit (Int.ofNat 25)) (wordX 0 5) (wordX 5 5) (wordX 10 5)]
def sum48_r24 : R Leaf := (.br (.cube 31744 0)
 (.br (.cube 140737488355328 140737488355328)
  (.ok { v := (.bool (.lit (0))), objs := [], n := 8 })
  (.br (.cube 281474976710656 281474976710656)
   (.ok { v := (.bool (.lit (0))), objs := [], n := 8 })
   (.br (.cube 70368744177664 70368744177664)
    (.ok { v := (.bool (.lit (0))), objs := [], n := 8 })
    (.ok { v := (.bool (.cube 70368743129088 0)), objs := [], n := 8 }))))
 (.ok { v := (.bool (.lit (0))), objs := [], n := 8 }))
theorem sum48_24 : leafOf LStart 7 ((ev cx40 4000).call 48 sum48_a24 (stG LStart 7)) = sum48_r24 := by kernel_rfl
def sum48_a25 : List V := [instX (.lit (Int.ofNat 26)) (wordX 0 5) (wordX 5 5) (wordX 10 5)]
def sum48_r25 : R Leaf := (.br (.cube 31744 0)
 (.br (.cube 140737488355328 140737488355328)
  (.ok { v := (.bool (.lit (0))), objs := [], n := 8 })
  (.br (.cube 281474976710656 281474976710656)
   (.ok { v := (.bool (.lit (0))), objs := [], n := 8 })
   (.br (.cube 70368744177664 70368744177664)
    (.ok { v := (.bool (.lit (0))), objs := [], n := 8 })
    (.ok { v := (.bool (.cube 70368743129088 0)), objs := [], n := 8 }))))
 (.ok { v := (.bool (.lit (0))), objs := [], n := 8 }))
theorem sum48_25 : leafOf LStart 7 ((ev cx40 4000).call 48 sum48_a25 (stG LStart 7)) = sum48_r25 := by kernel_rfl
def sum48_a26 : List V := [instX (.lit (Int.ofNat 27)) (wordX 0 5) (wordX 5 5) (wordX 10 5)]
def sum48_r26 : R Leaf := (.br (.cube 31744 0)
 (.br (.cube 140737488355328 140737488355328)
  (.ok { v := (.bool (.lit (0))), objs := [], n := 8 })
  (.br (.cube 281474976710656 281474976710656)
   (.ok { v := (.bool (.lit (0))), objs := [], n := 8 })
   (.br (.cube 70368744177664 70368744177664)
    (.ok { v := (.bool (.lit (0))), objs := [], n := 8 })
    (.ok { v := (.bool (.cube 70368743129088 0)), objs := [], n := 8 }))))
 (.ok { v := (.bool (.lit (0))), objs := [], n := 8 }))
theorem sum48_26 : leafOf LStart 7 ((ev cx40 4000).call 48 sum48_a26 (stG LStart 7)) = sum48_r26 := by kernel_rfl
def sum48_a27 : List V := [instX (.lit (Int.ofNat 28)) (wordX 0 5) (wordX 5 5) (wordX 10 5)]
def sum48_r27 : R Leaf := (.br (.cube 140737488355328 140737488355328)
 (.ok { v := (.bool (.lit (0))), objs := [], n := 8 })
 (.br (.cube 281474976710656 281474976710656)
  (.ok { v := (.bool (.lit (0))), objs := [], n := 8 })
  (.br (.cube 70368744177664 70368744177664)
   (.ok { v := (.bool (.lit (0))), objs := [], n := 8 })
   (.ok { v := (.bool (.cube 70368744144896 0)), objs := [], n := 8 }))))
theorem sum48_27 : leafOf LStart 7 ((ev cx40 4000).call 48 sum48_a27 (stG LStart 7)) = sum48_r27 := by kernel_rfl
def sum48_a28 : List V := [instX (.lit (Int.ofNat 29)) (wordX 0 5) (wordX 5 5) (wordX 10 5)]
def sum48_r28 : R Leaf := (.br (.cube 140737488355328 140737488355328)
 (.ok { v := (.bool (.lit (0))), objs := [], n := 8 })
 (.br (.cube 281474976710656 281474976710656)
  (.ok { v := (.bool (.lit (0))), objs := [], n := 8 })
  (.br (.cube 70368744177664 70368744177664)
   (.ok { v := (.bool (.lit (0))), objs := [], n := 8 })
   (.ok { v := (.bool (.cube 70368744144896 0)), objs := [], n := 8 }))))
theorem sum48_28 : leafOf LStart 7 ((ev cx40 4000).call 48 sum48_a28 (stG LStart 7)) = sum48_r28 := by kernel_rfl
def sum48_a29 : List V := [instX (.lit (Int.ofNat 30)) (wordX 0 5) (wordX 5 5) (wordX 10 5)]
def sum48_r29 : R Leaf := (.br (.cube 140737488355328 140737488355328)
 (.ok { v := (.bool (.lit (0))), objs := [], n := 8 })
 (.br (.cube 281474976710656 281474976710656)
  (.ok { v := (.bool (.lit (0))), objs := [], n := 8 })
  (.br (.cube 70368744177664 70368744177664)
   (.ok { v := (.bool (.lit (0))), objs := [], n := 8 })
   (.ok { v := (.bool (.cube 70368744144896 0)), objs := [], n := 8 }))))
theorem sum48_29 : leafOf LStart 7 ((ev cx40 4000).call 48 sum48_a29 (stG LStart 7)) = sum48_r29 := by kernel_rfl
def sum48_a30 : List V := [instX (.lit (Int.ofNat 31)) (wordX 0 5) (wordX 5 5) (wordX 10 5)]
def sum48_r30 : R Leaf := (.br (.cube 140737488355328 140737488355328)
 (.ok { v := (.bool (.lit (0))), objs := [], n := 8 })
 (.br (.cube 281474976710656 281474976710656)
  (.ok { v := (.bool (.lit (0))), objs := [], n := 8 })
  (.br (.cube 70368744177664 70368744177664)
   (.ok { v := (.bool (.lit (0))), objs := [], n := 8 })
   (.ok { v := (.bool (.cube 70368744144896 0)), objs := [], n := 8 }))))
theorem sum48_30 : leafOf LStart 7 ((ev cx40 4000).call 48 sum48_a30 (stG LStart 7)) = sum48_r30 := by kernel_rfl
def sum48_a31 : List V := [instX (.lit (Int.ofNat 32)) (wordX 0 5) (wordX 5 5) (wordX 10 5)]
def sum48_r31 : R Leaf := (.br (.cube 140737488355328 140737488355328)
 (.ok { v := (.bool (.lit (0))), objs := [], n := 8 })
 (.br (.cube 281474976710656 281474976710656)
  (.ok { v := (.bool (.lit (0))), objs := [], n := 8 })
  (.br (.cube 70368744177664 70368744177664)
   (.ok { v := (.bool (.lit (0))), objs := [], n := 8 })
   (.ok { v := (.bool (.cube 70368744144896 0)), objs := [], n := 8 }))))
theorem sum48_31 : leafOf LStart 7 ((ev cx40 4000).call 48 sum48_a31 (stG LStart 7)) = sum48_r31 := by kernel_rfl
def sum48_a32 : List V := [instX (.lit (Int.ofNat 33)) (wordX 0 5) (wordX 5 5) (wordX 10 5)]
def sum48_r32 : R Leaf := (.br (.cube 140737488355328 140737488355328)
 (.ok { v := (.bool (.lit (0))), objs := [], n := 8 })
 (.br (.cube 281474976710656 281474976710656)
  (.ok { v := (.bool (.lit (0))), objs := [], n := 8 })
  (.br (.cube 70368744177664 70368744177664)
   (.ok { v := (.bool (.lit (0))), objs := [], n := 8 })
   (.ok { v := (.bool (.cube 70368744144896 0)), objs := [], n := 8 }))))
theorem sum48_32 : leafOf LStart 7 ((ev cx40 4000).call 48 sum48_a32 (stG LStart 7)) = sum48_r32 := by kernel_rfl
def sum48_a33 : List V := [instX (.lit (Int.ofNat 34)) (wordX 0 5) (wordX 5 5) (wordX 10 5)]
def sum48_r33 : R Leaf := (.br (.cube 140737488355328 140737488355328)
 (.ok { v := (.bool (.lit (0))), objs := [], n := 8 })
 (.br (.cube 281474976710656 281474976710656)
  (.ok { v := (.bool (.lit (0))), objs := [], n := 8 })
  (.br (.cube 70368744177664 70368744177664)
   (.ok { v := (.bool (.lit (0))), objs := [], n := 8 })
   (.ok { v := (.bool (.cube 70368744144896 0)), objs := [], n := 8 }))))
theorem sum48_33 : leafOf LStart 7 ((ev cx40 4000).call 48 sum48_a33 (stG LStart 7)) = sum48_r33 := by kernel_rfl
def sum48_a34 : List V := [instX (.lit (Int.ofNat 35)) (wordX 0 5) (wordX 5 5) (wordX 10 5)]
def sum48_r34 : R Leaf := (.br (.cube 140737488355328 140737488355328)
 (.ok { v := (.bool (.lit (0))), objs := [], n := 8 })
 (.br (.cube 281474976710656 281474976710656)
  (.ok { v := (.bool (.lit (0))), objs := [], n := 8 })
  (.br (.cube 70368744177664 70368744177664)
   (.ok { v := (.bool (.lit (0))), objs := [], n := 8 })
   (.ok { v := (.bool (.cube 70368744144896 0)), objs := [], n := 8 }))))
theorem sum48_34 : leafOf LStart 7 ((ev cx40 4000).call 48 sum48_a34 (stG LStart 7)) = sum48_r34 := by kernel_rfl
def sum48_a35 : List V := [instX (.lit (Int.ofNat 36)) (wordX 0 5) (wordX 5 5) (wordX 10 5)]
def sum48_r35 : R Leaf := (.br (.cube 140737488355328 140737488355328)
 (.ok { v := (.bool (.lit (0))), objs := [], n := 8 })
 (.br (.cube 281474976710656 281474976710656)
  (.ok { v := (.bool (.lit (0))), objs := [], n := 8 })
  (.br (.cube 70368744177664 70368744177664)
   (.ok { v := (.bool (.lit (0))), objs := [], n := 8 })
   (.ok { v := (.bool (.cube 70368744144896 0)), objs := [], n := 8 }))))
theorem sum48_35 : leafOf LStart 7 ((ev cx40 4000).call 48 sum48_a35 (stG LStart 7)) = sum48_r35 := by kernel_rfl
def sum48_a36 : List V := [instX (.lit (Int.ofNat 37)) (wordX 0 5) (wordX 5 5) (wordX 10 5)]
def sum48_r36 : R Leaf := (.br (.cube 140737488355328 140737488355328)
 (.ok { v := (.bool (.lit (0))), objs := [], n := 8 })
 (.br (.cube 281474976710656 281474976710656)
  (.ok { v := (.bool (.lit (0))), objs := [], n := 8 })
  (.br (.cube 70368744177664 70368744177664)
   (.ok { v := (.bool (.lit (0))), objs := [], n := 8 })
   (.ok { v := (.bool (.cube 70368744144896 0)), objs := [], n := 8 }))))
theorem sum48_36 : leafOf LStart 7 ((ev cx40 4000).call 48 sum48_a36 (stG LStart 7)) = sum48_r36 := by kernel_rfl
def sum48_a37 : List V := [instX (.lit (Int.ofNat 38)) (wordX 0 5) (wordX 5 5) (wordX 10 5)]
def sum48_r37 : R Leaf := (.br (.cube 31 0)
 (.br (.cube 992 0)
  (.br (.cube 31744 0)
   (.br (.cube 140737488355328 140737488355328)
    (.ok { v := (.bool (.lit (0))), objs := [], n := 8 })
    (.br (.cube 281474976710656 281474976710656)
     (.ok { v := (.bool (.lit (0))), objs := [], n := 8 })
     (.br (.cube 70368744177664 70368744177664)
      (.ok { v := (.bool (.lit (0))), objs := [], n := 8 })
      (.ok { v := (.bool (.cube 70368735789056 0)), objs := [], n := 8 }))))
   (.ok { v := (.bool (.lit (0))), objs := [], n := 8 }))
  (.ok { v := (.bool (.lit (0))), objs := [], n := 8 }))
 (.ok { v := (.bool (.lit (0))), objs := [], n := 8 }))
theorem sum48_37 : leafOf LStart 7 ((ev cx40 4000).call 48 sum48_a37 (stG LStart 7)) = sum48_r37 := by kernel_rfl
def sum48_a38 : List V := [instX (.lit (Int.ofNat 39)) (wordX 0 5) (wordX 5 5) (wordX 10 5)]
def sum48_r38 : R Leaf := (.br (.cube 31 0)
 (.br (.cube 992 0)
  (.br (.cube 31744 0)
   (.br (.cube 140737488355328 140737488355328)
    (.ok { v := (.bool (.lit (0))), objs := [], n := 8 })
    (.br (.cube 281474976710656 281474976710656)
     (.ok { v := (.bool (.lit (0))), objs := [], n := 8 })
     (.br (.cube 70368744177664 70368744177664)
      (.ok { v := (.bool (.lit (0))), objs := [], n := 8 })
      (.ok { v := (.bool (.cube 70368744144896 0)), objs := [], n := 8 }))))
   (.ok { v := (.bool (.lit (0))), objs := [], n := 8 }))
  (.ok { v := (.bool (.lit (0))), objs := [], n := 8 }))
 (.ok { v := (.bool (.lit (0))), objs := [], n := 8 }))
theorem sum48_38 : leafOf LStart 7 ((ev cx40 4000).call 48 sum48_a38 (stG LStart 7)) = sum48_r38 := by kernel_rfl
def sum48_a39 : List V := [instX (.lit (Int.ofNat 40)) (wordX 0 5) (wordX 5 5) (wordX 10 5)]
def sum48_r39 : R Leaf := (.br (.cube 140737488355328 140737488355328)
 (.ok { v := (.bool (.lit (0))), objs := [], n := 8 })
 (.br (.cube 281474976710656 281474976710656)
  (.ok { v := (.bool (.lit (0))), objs := [], n := 8 })
  (.br (.cube 70368744177664 70368744177664)
   (.ok { v := (.bool (.lit (0))), objs := [], n := 8 })
   (.ok { v := (.bool (.cube 70368744144896 0)), objs := [], n := 8 }))))
theorem sum48_39 : leafOf LStart 7 ((ev cx40 4000).call 48 sum48_a39 (stG LStart 7)) = sum48_r39 := by kernel_rfl
def sum48_a40 : List V := [instX (.lit (Int.ofNat 41)) (wordX 0 5) (wordX 5 5) (wordX 10 5)]
def sum48_r40 : R Leaf := (.br (.cube 140737488355328 140737488355328)
 (.ok { v := (.bool (.lit (0))), objs := [], n := 8 })
 (.br (.cube 281474976710656 281474976710656)
  (.ok { v := (.bool (.lit (0))), objs := [], n := 8 })
  (.br (.cube 70368744177664 70368744177664)
   (.ok { v := (.bool (.lit (0))), objs := [], n := 8 })
   (.ok { v := (.bool (.cube 70368744144896 0)), objs := [], n := 8 }))))
theorem sum48_40 : leafOf LStart 7 ((ev cx40 4000).call 48 sum48_a40 (stG LStart 7)) = sum48_r40 := by kernel_rfl
def sum48_a41 : List V := [instX (.lit (Int.ofNat 42)) (wordX 0 5) (wordX 5 5) (wordX 10 5)]
def sum48_r41 : R Leaf := (.br (.cube 140737488355328 140737488355328)
 (.ok { v := (.bool (.lit (0))), objs := [], n := 8 })
 (.br (.cube 281474976710656 281474976710656)
  (.ok { v := (.bool (.lit (0))), objs := [], n := 8 })
  (.br (.cube 70368744177664 70368744177664)
   (.ok { v := (.bool (.lit (0))), objs := [], n := 8 })
   (.ok { v := (.bool (.cube 70368744144896 0)), objs := [], n := 8 }))))
theorem sum48_41 : leafOf LStart 7 ((ev cx40 4000).call 48 sum48_a41 (stG LStart 7)) = sum48_r41 := by kernel_rfl
def sum48_a42 : List V := [instX (.lit (Int.ofNat 43)) (wordX 0 5) (wordX 5 5) (wordX 10 5)]
def sum48_r42 : R Leaf := (.br (.cube 140737488355328 140737488355328)
 (.ok { v := (.bool (.lit (0))), objs := [], n := 8 })
 (.br (.cube 281474976710656 281474976710656)
  (.ok { v := (.bool (.lit (0))), objs := [], n := 8 })
  (.br (.cube 70368744177664 70368744177664)
   (.ok { v := (.bool (.lit (0))), objs := [], n := 8 })
   (.ok { v := (.bool (.cube 70368744144896 0)), objs := [], n := 8 }))))
theorem sum48_42 : leafOf LStart 7 ((ev cx40 4000).call 48 sum48_a42 (stG LStart 7)) = sum48_r42 := by kernel_rfl
def sum48_a43 : List V := [instX (.lit (Int.ofNat 44)) (wordX 0 5) (wordX 5 5) (wordX 10 5)]
def sum48_r43 : R Leaf := (.br (.cube 140737488355328 140737488355328)
 (.ok { v := (.bool (.lit (0))), objs := [], n := 8 })
 (.br (.cube 281474976710656 281474976710656)
  (.ok { v := (.bool (.lit (0))), objs := [], n := 8 })
  (.br (.cube 70368744177664 70368744177664)
   (.ok { v := (.bool (.lit (0))), objs := [], n := 8 })
   (.ok { v := (.bool (.cube 70368744144896 0)), objs := [], n := 8 }))))
theorem sum48_43 : leafOf LStart 7 ((ev cx40 4000).call 48 sum48_a43 (stG LStart 7)) = sum48_r43 := by kernel_rfl
def sum48_a44 : List V := [instX (.lit (Int.ofNat 45)) (wordX 0 5) (wordX 5 5) (wordX 10 5)]
def sum48_r44 : R Leaf := (.br (.cube 140737488355328 140737488355328)
 (.ok { v := (.bool (.lit (0))), objs := [], n := 8 })
 (.br (.cube 281474976710656 281474976710656)
  (.ok { v := (.bool (.lit (0))), objs := [], n := 8 })
  (.br (.cube 70368744177664 70368744177664)
   (.ok { v := (.bool (.lit (0))), objs := [], n := 8 })
   (.ok { v := (.bool (.cube 70368744144896 0)), objs := [], n := 8 }))))
theorem sum48_44 : leafOf LStart 7 ((ev cx40 4000).call 48 sum48_a44 (stG LStart 7)) = sum48_r44 := by kernel_rfl
def sum48_a45 : List V := [instX (.lit (Int.ofNat 46)) (wordX 0 5) (wordX 5 5) (wordX 10 5)]
def sum48_r45 : R Leaf := (.br (.cube 140737488355328 140737488355328)
 (.ok { v := (.bool (.lit (0))), objs := [], n := 8 })
 (.br (.cube 281474976710656 281474976710656)
  (.ok { v := (.bool (.lit (0))), objs := [], n := 8 })
  (.br (.cube 70368744177664 70368744177664)
   (.ok { v := (.bool (.lit (0))), objs := [], n := 8 })
   (.ok { v := (.bool (.cube 70368744144896 0)), objs := [], n := 8 }))))
theorem sum48_45 : leafOf LStart 7 ((ev cx40 4000).call 48 sum48_a45 (stG LStart 7)) = sum48_r45 := by kernel_rfl
def sum48_a46 : List V := [instX (.lit (Int.ofNat 47)) (wordX 0 5) (wordX 5 5) (wordX 10 5)]
def sum48_r46 : R Leaf := (.br (.cube 140737488355328 140737488355328)
 (.ok { v := (.bool (.lit (0))), objs := [], n := 8 })
 (.br (.cube 281474976710656 281474976710656)
  (.ok { v := (.bool (.lit (0))), objs := [], n := 8 })
  (.br (.cube 70368744177664 70368744177664)
   (.ok { v := (.bool (.lit (0))), objs := [], n := 8 })
   (.ok { v := (.bool (.cube 70368744144896 0)), objs := [], n := 8 }))))
theorem sum48_46 : leafOf LStart 7 ((ev cx40 4000).call 48 sum48_a46 (stG LStart 7)) = sum48_r46 := by kernel_rfl
def sum48_a47 : List V := [instX (.lit (Int.ofNat 48)) (wordX 0 5) (wordX 5 5) (wordX 10 5)]
def sum48_r47 : R Leaf := (.br (.cube 31744 0)
 (.br (.cube 70368744177664 70368744177664)
  (.ok { v := (.bool (.lit (0))), objs := [], n := 8 })
  (.ok { v := (.bool (.cube 70368744144896 0)), objs := [], n := 8 }))
 (.ok { v := (.bool (.lit (0))), objs := [], n := 8 }))
theorem sum48_47 : leafOf LStart 7 ((ev cx40 4000).call 48 sum48_a47 (stG LStart 7)) = sum48_r47 := by kernel_rfl
def sum48_a48 : List V := [instX (.lit (Int.ofNat 49)) (wordX 0 5) (wordX 5 5) (wordX 10 5)]
def sum48_r48 : R Leaf := (.br (.cube 70368744177664 70368744177664)
 (.ok { v := (.bool (.lit (0))), objs := [], n := 8 })
 (.ok { v := (.bool (.cube 70368744144896 0)), objs := [], n := 8 }))
theorem sum48_48 : leafOf LStart 7 ((ev cx40 4000).call 48 sum48_a48 (stG LStart 7)) = sum48_r48 := by kernel_rfl
def sum48_a49 : List V := [instX (.lit (Int.ofNat 50)) (wordX 0 5) (wordX 5 5) (wordX 10 5)]
def sum48_r49 : R Leaf := (.br (.cube 70368744177664 70368744177664)
 (.ok { v := (.bool (.lit (0))), objs := [], n := 8 })
 (.ok { v := (.bool (.cube 70368744144896 0)), objs := [], n := 8 }))
theorem sum48_49 : leafOf LStart 7 ((ev cx40 4000).call 48 sum48_a49 (stG LStart 7)) = sum48_r49 := by kernel_rfl
def sum48_a50 : List V := [instX (.lit (Int.ofNat 51)) (wordX 0 5) (wordX 5 5) (wordX 10 5)]
def sum48_r50 : R Leaf := (.br (.cube 70368744177664 70368744177664)
 (.ok { v := (.bool (.lit (0))), objs := [], n := 8 })
 (.ok { v := (.bool (.cube 70368744144896 0)), objs := [], n := 8 }))
theorem sum48_50 : leafOf LStart 7 ((ev cx40 4000).call 48 sum48_a50 (stG LStart 7)) = sum48_r50 := by kernel_rfl
def sum48_a51 : List V := [instX (.lit (Int.ofNat 52)) (wordX 0 5) (wordX 5 5) (wordX 10 5)]
def sum48_r51 : R Leaf := (.br (.cube 70368744177664 70368744177664)
 (.ok { v := (.bool (.lit (0))), objs := [], n := 8 })
 (.ok { v := (.bool (.cube 70368744144896 0)), objs := [], n := 8 }))
theorem sum48_51 : leafOf LStart 7 ((ev cx40 4000).call 48 sum48_a51 (stG LStart 7)) = sum48_r51 := by kernel_rfl
def sum48_a52 : List V := [instX (.lit (Int.ofNat 53)) (wordX 0 5) (wordX 5 5) (wordX 10 5)]
def sum48_r52 : R Leaf := (.br (.cube 70368744177664 70368744177664)
 (.ok { v := (.bool (.lit (0))), objs := [], n := 8 })
 (.ok { v := (.bool (.cube 70368744144896 0)), objs := [], n := 8 }))
theorem sum48_52 : leafOf LStart 7 ((ev cx40 4000).call 48 sum48_a52 (stG LStart 7)) = sum48_r52 := by kernel_rfl
def sum48_a53 : List V := [instX (.lit (Int.ofNat 54)) (wordX 0 5) (wordX 5 5) (wordX 10 5)]
def sum48_r53 : R Leaf := (.br (.cube 70368744177664 70368744177664)
 (.ok { v := (.bool (.lit (0))), objs := [], n := 8 })
 (.ok { v := (.bool (.cube 70368744144896 0)), objs := [], n := 8 }))
theorem sum48_53 : leafOf LStart 7 ((ev cx40 4000).call 48 sum48_a53 (stG LStart 7)) = sum48_r53 := by kernel_rfl
def sum48_a54 : List V := [instX (.lit (Int.ofNat 55)) (wordX 0 5) (wordX 5 5) (wordX 10 5)]
def sum48_r54 : R Leaf := (.br (.cube 70368744177664 70368744177664)
 (.ok { v := (.bool (.lit (0))), objs := [], n := 8 })
 (.ok { v := (.bool (.cube 70368744144896 0)), objs := [], n := 8 }))
theorem sum48_54 : leafOf LStart 7 ((ev cx40 4000).call 48 sum48_a54 (stG LStart 7)) = sum48_r54 := by kernel_rfl
def sum48_a55 : List V := [instX (.lit (Int.ofNat 56)) (wordX 0 5) (wordX 5 5) (wordX 10 5)]
def sum48_r55 : R Leaf := (.br (.cube 70368744177664 70368744177664)
 (.ok { v := (.bool (.lit (0))), objs := [], n := 8 })
 (.ok { v := (.bool (.cube 70368744144896 0)), objs := [], n := 8 }))
theorem sum48_55 : leafOf LStart 7 ((ev cx40 4000).call 48 sum48_a55 (stG LStart 7)) = sum48_r55 := by kernel_rfl
def sum48_a56 : List V := [instX (.lit (Int.ofNat 57)) (wordX 0 5) (wordX 5 5) (wordX 10 5)]
def sum48_r56 : R Leaf := (.br (.cube 70368744177664 70368744177664)
 (.ok { v := (.bool (.lit (0))), objs := [], n := 8 })
 (.ok { v := (.bool (.cube 70368744144896 0)), objs := [], n := 8 }))
theorem sum48_56 : leafOf LStart 7 ((ev cx40 4000).call 48 sum48_a56 (stG LStart 7)) = sum48_r56 := by kernel_rfl
def sum48_a57 : List V := [instX (.lit (Int.ofNat 58)) (wordX 0 5) (wordX 5 5) (wordX 10 5)]
def sum48_r57 : R Leaf := (.br (.cube 70368744177664 70368744177664)
 (.ok { v := (.bool (.lit (0))), objs := [], n := 8 })
 (.ok { v := (.bool (.cube 70368744144896 0)), objs := [], n := 8 }))
theorem sum48_57 : leafOf LStart 7 ((ev cx40 4000).call 48 sum48_a57 (stG LStart 7)) = sum48_r57 := by kernel_rfl
def sum48_a58 : List V := [instX (.lit (Int.ofNat 59)) (wordX 0 5) (wordX 5 5) (wordX 10 5)]
def sum48_r58 : R Leaf := (.br (.cube 992 0)
 (.br (.cube 31744 0)
  (.br (.cube 140737488355328 140737488355328)
   (.ok { v := (.bool (.lit (0))), objs := [], n := 8 })
   (.br (.cube 281474976710656 281474976710656)
    (.ok { v := (.bool (.lit (0))), objs := [], n := 8 })
    (.br (.cube 70368744177664 70368744177664)
     (.ok { v := (.bool (.lit (0))), objs := [], n := 8 })
     (.ok { v := (.bool (.cube 70368744144896 0)), objs := [], n := 8 }))))
  (.ok { v := (.bool (.lit (0))), objs := [], n := 8 }))
 (.ok { v := (.bool (.lit (0))), objs := [], n := 8 }))
theorem sum48_58 : leafOf LStart 7 ((ev cx40 4000).call 48 sum48_a58 (stG LStart 7)) = sum48_r58 := by kernel_rfl
def sum48 : List (List V × R Leaf) := [(sum48_a0, sum48_r0), (sum48_a1, sum48_r1), (sum48_a2, sum48_r2), (sum48_a3, sum48_r3), (sum48_a4, sum48_r4), (sum48_a5, sum48_r5), (sum48_a6, sum48_r6), (sum48_a7, sum48_r7), (sum48_a8, sum48_r8), (sum48_a9, sum48_r9), (sum48_a10, sum48_r10), (sum48_a11, sum48_r11), (sum48_a12, sum48_r12), (sum48_a13, sum48_r13), (sum48_a14, sum48_r14), (sum48_a15, sum48_r15), (sum48_a16, sum48_r16), (sum48_a17, sum48_r17), (sum48_a18, sum48_r18), (sum48_a19, sum48_r19), (sum48_a20, sum48_r20), (sum48_a21, sum48_r21), (sum48_a22, sum48_r22), (sum48_a23, sum48_r23), (sum48_a24, sum48_r24), (sum48_a25, sum48_r25), (sum48_a26, sum48_r26), (sum48_a27, sum48_r27), (sum48_a28, sum48_r28), (sum48_a29, sum48_r29), (sum48_a30, sum48_r30), (sum48_a31, sum48_r31), (sum48_a32, sum48_r32), (sum48_a33, sum48_r33), (sum48_a34, sum48_r34), (sum48_a35, sum48_r35), (sum48_a36, sum48_r36), (sum48_a37, sum48_r37), (sum48_a38, sum48_r38), (sum48_a39, sum48_r39), (sum48_a40, sum48_r40), (sum48_a41, sum48_r41), (sum48_a42, sum48_r42), (sum48_a43, sum48_r43), (sum48_a44, sum48_r44), (sum48_a45, sum48_r45), (sum48_a46, sum48_r46), (sum48_a47, sum48_r47), (sum48_a48, sum48_r48), (sum48_a49, sum48_r49), (sum48_a50, sum48_r50), (sum48_a51, sum48_r51), (sum48_a52, sum48_r52), (sum48_a53, sum48_r53), (sum48_a54, sum48_r54), (sum48_a55, sum48_r55), (sum48_a56, sum48_r56), (sum48_a57, sum48_r57), (sum48_a58, sum48_r58)]
theorem sum48_ok : TabOk cx40 LStart 7 4000 48 sum48 := .cons rfl sum48_0 <| .cons rfl sum48_1 <| .cons rfl sum48_2 <| .cons rfl sum48_3 <| .cons rfl sum48_4 <| .cons rfl sum48_5 <| .cons rfl sum48_6 <| .cons rfl sum48_7 <| .cons rfl sum48_8 <| .cons rfl sum48_9 <| .cons rfl sum48_10 <| .cons rfl sum48_11 <| .cons rfl sum48_12 <| .cons rfl sum48_13 <| .cons rfl sum48_14 <| .cons rfl sum48_15 <| .cons rfl sum48_16 <| .cons rfl sum48_17 <| .cons rfl sum48_18 <| .cons rfl sum48_19 <| .cons rfl sum48_20 <| .cons rfl sum48_21 <| .cons rfl sum48_22 <| .cons rfl sum48_23 <| .cons rfl sum48_24 <| .cons rfl sum48_25 <| .cons rfl sum48_26 <| .cons rfl sum48_27 <| .cons rfl sum48_28 <| .cons rfl sum48_29 <| .cons rfl sum48_30 <| .cons rfl sum48_31 <| .cons rfl sum48_32 <| .cons rfl sum48_33 <| .cons rfl sum48_34 <| .cons rfl sum48_35 <| .cons rfl sum48_36 <| .cons rfl sum48_37 <| .cons rfl sum48_38 <| .cons rfl sum48_39 <| .cons rfl sum48_40 <| .cons rfl sum48_41 <| .cons rfl sum48_42 <| .cons rfl sum48_43 <| .cons rfl sum48_44 <| .cons rfl sum48_45 <| .cons rfl sum48_46 <| .cons rfl sum48_47 <| .cons rfl sum48_48 <| .cons rfl sum48_49 <| .cons rfl sum48_50 <| .cons rfl sum48_51 <| .cons rfl sum48_52 <| .cons rfl sum48_53 <| .cons rfl sum48_54 <| .cons rfl sum48_55 <| .cons rfl sum48_56 <| .cons rfl sum48_57 <| .cons rfl sum48_58 <| .nil
noncomputable def cx48 : Cx := { cx with dm := dmH, sm := smOf [(48, sumPar LStart 7 sum48), (40, sumPar LStart 7 sum40), (45, sumPar LStart 7 sum45), (67, sumTab LStart 7 sum67), (66, sumTab LStart 7 sum66), (65, sumTab LStart 7 sum65), (44, sumTab LStart 7 sum44), (47, sumTab LStart 7 sum47), (13, sumTab LStart 7 sum13), (101, sumTab LStart 7 sum101), (104, sumTab LStart 7 sum104)] }
end Go.Proofs.YtcachlbljjpjdaaGreatDoor

namespace Go.Proofs.YtcachlbljjpjdaaGreatDoor
open Go Go.Proofs
set_option maxRecDepth 100000
def sum49_a0 : List V := [instX (.lit (Int.ofNat 1)) (wordX 0 5) (wordX 5 5) (wordX 10 5)]
def sum49_r0 : R Leaf := (.ok { v := (.int .u32 (.wrap .u32 (.add (.bv [.one, .one, .one, .zero, .one, .one, .zero, .pos 0, .pos 1, .pos 2, .pos 3, .pos 4, .zero, .zero, .zero, .pos 5, .pos 6, .pos 7, .pos 8, .pos 9, .pos 10, .pos 11, .pos 12, .pos 13, .pos 14] (.zero)) (.bv [.pos 15, .pos 16, .pos 17, .pos 18, .pos 19, .pos 20, .pos 21, .pos 22, .pos 23, .pos 24, .pos 25, .pos 26, .pos 27, .pos 28, .pos 29, .pos 30, .pos 31, .pos 32, .pos 33, .pos 34, .pos 35, .pos 36, .pos 37, .pos 38, .pos 39, .pos 40, .pos 41, .pos 42, .pos 43, .pos 44, .pos 45, .pos 46] (.zero))))), objs := [], n := 8 })
theorem sum49_0 : leafOf LStart 7 ((ev cx48 4000).call 49 sum49_a0 (stG LStart 7)) = sum49_r0 := by kernel_rfl
def sum49_a1 : List V := [instX (.lit (Int.ofNat 2)) (wordX 0 5) (wordX 5 5) (wordX 10 5)]
def sum49_r1 : R Leaf := (.ok { v := (.int .u32 (.wrap .u32 (.add (.bv [.one, .one, .one, .zero, .one, .zero, .zero, .pos 0, .pos 1, .pos 2, .pos 3, .pos 4, .zero, .zero, .zero, .pos 5, .pos 6, .pos 7, .pos 8, .pos 9, .pos 10, .pos 11, .pos 12, .pos 13, .pos 14] (.zero)) (.bv [.pos 15, .pos 16, .pos 17, .pos 18, .pos 19, .pos 20, .pos 21, .pos 22, .pos 23, .pos 24, .pos 25, .pos 26, .pos 27, .pos 28, .pos 29, .pos 30, .pos 31, .pos 32, .pos 33, .pos 34, .pos 35, .pos 36, .pos 37, .pos 38, .pos 39, .pos 40, .pos 41, .pos 42, .pos 43, .pos 44, .pos 45, .pos 46] (.zero))))), objs := [], n := 8 })
theorem sum49_1 : leafOf LStart 7 ((ev cx48 4000).call 49 sum49_a1 (stG LStart 7)) = sum49_r1 := by kernel_rfl
def sum49_a2 : List V := [instX (.lit (Int.ofNat 3)) (wordX 0 5) (wordX 5 5) (wordX 10 5)]
def sum49_r2 : R Leaf := (.ok { v := (.int .u32 (.wrap .u32 (.add (.wrap .u32 (.add (.wrap .u32 (.add (.bv [.one, .one, .one, .one, .zero, .one, .one, .pos 0, .pos 1, .pos 2, .pos 3, .pos 4, .zero, .zero, .zero, .pos 5, .pos 6, .pos 7, .pos 8, .pos 9, .pos 10, .pos 11, .pos 12, .pos 13, .pos 14, .zero, .zero, .zero, .zero, .zero, .zero, .pos 35] (.zero)) (.bv [.zero, .zero, .zero, .zero, .zero, .zero, .zero, .zero, .zero, .zero, .zero, .zero, .zero, .zero, .zero, .zero, .zero, .zero, .zero, .zero, .zero, .pos 16, .pos 17, .pos 18, .pos 19, .pos 20, .pos 21, .pos 22, .pos 23, .pos 24, .pos 25] (.zero)))) (.bv [.zero, .zero, .zero, .zero, .zero, .zero, .zero, .zero, .zero, .zero, .zero, .zero, .zero, .zero, .zero, .zero, .zero, .zero, .zero, .zero, .pos 26] (.zero)))) (.bv [.zero, .zero, .zero, .zero, .zero, .zero, .zero, .zero, .zero, .zero, .zero, .zero, .pos 27, .pos 28, .pos 29, .pos 30, .pos 31, .pos 32, .pos 33, .pos 34] (.zero))))), objs := [], n := 8 })
theorem sum49_2 : leafOf LStart 7 ((ev cx48 4000).call 49 sum49_a2 (stG LStart 7)) = sum49_r2 := by kernel_rfl
def sum49_a3 : List V := [instX (.lit (Int.ofNat 4)) (wordX 0 5) (wordX 5 5) (wordX 10 5)]
def sum49_r3 : R Leaf := (.ok { v := (.int .u32 (.wrap .u32 (.add (.bv [.one, .one, .one, .zero, .zero, .one, .one, .pos 0, .pos 1, .pos 2, .pos 3, .pos 4, .zero, .zero, .zero, .pos 5, .pos 6, .pos 7, .pos 8, .pos 9, .pos 10, .pos 11, .pos 12, .pos 13, .pos 14] (.zero)) (.bv [.zero, .zero, .zero, .zero, .zero, .zero, .zero, .zero, .zero, .zero, .zero, .zero, .zero, .zero, .zero, .zero, .zero, .zero, .zero, .zero, .pos 15, .pos 16, .pos 17, .pos 18, .pos 19, .pos 20, .pos 21, .pos 22, .pos 23, .pos 24, .pos 25, .pos 26] (.zero))))), objs := [], n := 9 })
theorem sum49_3 : leafOf LStart 7 ((ev cx48 4000).call 49 sum49_a3 (stG LStart 7)) = sum49_r3 := by kernel_rfl
def sum49_a4 : List V := [instX (.lit (Int.ofNat 5)) (wordX 0 5) (wordX 5 5) (wordX 10 5)]
def sum49_r4 : R Leaf := (.ok { v := (.int .u32 (.wrap .u32 (.add (.wrap .u32 (.add (.bv [.one, .one, .zero, .zero, .zero, .one, .one, .pos 0, .pos 1, .pos 2, .pos 3, .pos 4, .zero, .zero, .zero, .pos 5, .pos 6, .pos 7, .pos 8, .pos 9, .pos 10, .pos 11, .pos 12, .pos 13, .pos 14, .pos 20, .pos 21, .pos 22, .pos 23, .pos 24, .pos 25, .pos 27] (.zero)) (.bv [.zero, .zero, .zero, .zero, .zero, .zero, .zero, .zero, .pos 16, .pos 17, .pos 18, .pos 19] (.zero)))) (.bv [.zero, .zero, .zero, .zero, .zero, .zero, .zero, .pos 26] (.zero))))), objs := [], n := 9 })
theorem sum49_4 : leafOf LStart 7 ((ev cx48 4000).call 49 sum49_a4 (stG LStart 7)) = sum49_r4 := by kernel_rfl
def sum49_a5 : List V := [instX (.lit (Int.ofNat 6)) (wordX 0 5) (wordX 5 5) (wordX 10 5)]
def sum49_r5 : R Leaf := (.ok { v := (.int .u32 (.wrap .u32 (.add (.wrap .u32 (.add (.bv [.one, .one, .zero, .zero, .zero, .one, .one, .pos 0, .pos 1, .pos 2, .pos 3, .pos 4, .one, .zero, .zero, .pos 5, .pos 6, .pos 7, .pos 8, .pos 9, .pos 10, .pos 11, .pos 12, .pos 13, .pos 14, .pos 20, .pos 21, .pos 22, .pos 23, .pos 24, .pos 25, .pos 27] (.zero)) (.bv [.zero, .zero, .zero, .zero, .zero, .zero, .zero, .zero, .pos 16, .pos 17, .pos 18, .pos 19] (.zero)))) (.bv [.zero, .zero, .zero, .zero, .zero, .zero, .zero, .pos 26] (.zero))))), objs := [], n := 9 })
theorem sum49_5 : leafOf LStart 7 ((ev cx48 4000).call 49 sum49_a5 (stG LStart 7)) = sum49_r5 := by kernel_rfl
def sum49_a6 : List V := [instX (.lit (Int.ofNat 7)) (wordX 0 5) (wordX 5 5) (wordX 10 5)]
def sum49_r6 : R Leaf := (.ok { v := (.int .u32 (.wrap .u32 (.add (.wrap .u32 (.add (.bv [.one, .one, .zero, .zero, .zero, .one, .one, .pos 0, .pos 1, .pos 2, .pos 3, .pos 4, .zero, .zero, .one, .pos 5, .pos 6, .pos 7, .pos 8, .pos 9, .pos 10, .pos 11, .pos 12, .pos 13, .pos 14, .pos 20, .pos 21, .pos 22, .pos 23, .pos 24, .pos 25, .pos 27] (.zero)) (.bv [.zero, .zero, .zero, .zero, .zero, .zero, .zero, .zero, .pos 16, .pos 17, .pos 18, .pos 19] (.zero)))) (.bv [.zero, .zero, .zero, .zero, .zero, .zero, .zero, .pos 26] (.zero))))), objs := [], n := 9 })
theorem sum49_6 : leafOf LStart 7 ((ev cx48 4000).call 49 sum49_a6 (stG LStart 7)) = sum49_r6 := by kernel_rfl
def sum49_a7 : List V := [instX (.lit (Int.ofNat 8)) (wordX 0 5) (wordX 5 5) (wordX 10 5)]
def sum49_r7 : R Leaf := (.ok { v := (.int .u32 (.wrap .u32 (.add (.wrap .u32 (.add (.bv [.one, .one, .zero, .zero, .zero, .one, .one, .pos 0, .pos 1, .pos 2, .pos 3, .pos 4, .one, .zero, .one, .pos 5, .pos 6, .pos 7, .pos 8, .pos 9, .pos 10, .pos 11, .pos 12, .pos 13, .pos 14, .pos 20, .pos 21, .pos 22, .pos 23, .pos 24, .pos 25, .pos 27] (.zero)) (.bv [.zero, .zero, .zero, .zero, .zero, .zero, .zero, .zero, .pos 16, .pos 17, .pos 18, .pos 19] (.zero)))) (.bv [.zero, .zero, .zero, .zero, .zero, .zero, .zero, .pos 26] (.zero))))), objs := [], n := 9 })
theorem sum49_7 : leafOf LStart 7 ((ev cx48 4000).call 49 sum49_a7 (stG LStart 7)) = sum49_r7 := by kernel_rfl
def sum49_a8 : List V := [instX (.lit (Int.ofNat 9)) (wordX 0 5) (wordX 5 5) (wordX 10 5)]
def sum49_r8 : R Leaf := (.ok { v := (.int .u32 (.wrap .u32 (.add (.wrap .u32 (.add (.bv [.one, .one, .zero, .zero, .zero, .one, .one, .pos 0, .pos 1, .pos 2, .pos 3, .pos 4, .zero, .one, .one, .pos 5, .pos 6, .pos 7, .pos 8, .pos 9, .pos 10, .pos 11, .pos 12, .pos 13, .pos 14, .pos 20, .pos 21, .pos 22, .pos 23, .pos 24, .pos 25, .pos 27] (.zero)) (.bv [.zero, .zero, .zero, .zero, .zero, .zero, .zero, .zero, .pos 16, .pos 17, .pos 18, .pos 19] (.zero)))) (.bv [.zero, .zero, .zero, .zero, .zero, .zero, .zero, .pos 26] (.zero))))), objs := [], n := 9 })
theorem sum49_8 : leafOf LStart 7 ((ev cx48 4000).call 49 sum49_a8 (stG LStart 7)) = sum49_r8 := by kernel_rfl
def sum49_a9 : List V := [instX (.lit (Int.ofNat 10)) (wordX 0 5) (wordX 5 5) (wordX 10 5)]
def sum49_r9 : R Leaf := (.ok { v := (.int .u32 (.wrap .u32 (.add (.wrap .u32 (.add (.bv [.one, .one, .zero, .zero, .zero, .one, .one, .pos 0, .pos 1, .pos 2, .pos 3, .pos 4, .one, .one, .one, .pos 5, .pos 6, .pos 7, .pos 8, .pos 9, .pos 10, .pos 11, .pos 12, .pos 13, .pos 14, .pos 20, .pos 21, .pos 22, .pos 23, .pos 24, .pos 25, .pos 27] (.zero)) (.bv [.zero, .zero, .zero, .zero, .zero, .zero, .zero, .zero, .pos 16, .pos 17, .pos 18, .pos 19] (.zero)))) (.bv [.zero, .zero, .zero, .zero, .zero, .zero, .zero, .pos 26] (.zero))))), objs := [], n := 9 })
theorem sum49_9 : leafOf LStart 7 ((ev cx48 4000).call 49 sum49_a9 (stG LStart 7)) = sum49_r9 := by kernel_rfl
def sum49_a10 : List V := [instX (.lit (Int.ofNat 11)) (wordX 0 5) (wordX 5 5) (wordX 10 5)]
def sum49_r10 : R Leaf := (.ok { v := (.int .u32 (.wrap .u32 (.add (.bv [.one, .one, .zero, .zero, .zero, .zero, .zero, .pos 0, .pos 1, .pos 2, .pos 3, .pos 4, .zero, .zero, .zero, .pos 5, .pos 6, .pos 7, .pos 8, .pos 9, .pos 10, .pos 11, .pos 12, .pos 13, .pos 14] (.zero)) (.bv [.zero, .zero, .zero, .zero, .zero, .zero, .zero, .zero, .zero, .zero, .zero, .zero, .zero, .zero, .zero, .zero, .zero, .zero, .zero, .zero, .pos 15, .pos 16, .pos 17, .pos 18, .pos 19, .pos 20, .pos 21, .pos 22, .pos 23, .pos 24, .pos 25, .pos 26] (.zero))))), objs := [], n := 9 })
theorem sum49_10 : leafOf LStart 7 ((ev cx48 4000).call 49 sum49_a10 (stG LStart 7)) = sum49_r10 := by kernel_rfl
def sum49_a11 : List V := [instX (.lit (Int.ofNat 12)) (wordX 0 5) (wordX 5 5) (wordX 10 5)]
def sum49_r11 : R Leaf := (.ok { v := (.int .u32 (.wrap .u32 (.add (.bv [.one, .one, .zero, .zero, .zero, .zero, .zero, .pos 0, .pos 1, .pos 2, .pos 3, .pos 4, .one, .zero, .zero, .pos 5, .pos 6, .pos 7, .pos 8, .pos 9, .pos 10, .pos 11, .pos 12, .pos 13, .pos 14] (.zero)) (.bv [.zero, .zero, .zero, .zero, .zero, .zero, .zero, .zero, .zero, .zero, .zero, .zero, .zero, .zero, .zero, .zero, .zero, .zero, .zero, .zero, .pos 15, .pos 16, .pos 17, .pos 18, .pos 19, .pos 20, .pos 21, .pos 22, .pos 23, .pos 24, .pos 25, .pos 26] (.zero))))), objs := [], n := 9 })
theorem sum49_11 : leafOf LStart 7 ((ev cx48 4000).call 49 sum49_a11 (stG LStart 7)) = sum49_r11 := by kernel_rfl
def sum49_a12 : List V := [instX (.lit (Int.ofNat 13)) (wordX 0 5) (wordX 5 5) (wordX 10 5)]
def sum49_r12 : R Leaf := (.ok { v := (.int .u32 (.wrap .u32 (.add (.bv [.one, .one, .zero, .zero, .zero, .zero, .zero, .pos 0, .pos 1, .pos 2, .pos 3, .pos 4, .zero, .one, .zero, .pos 5, .pos 6, .pos 7, .pos 8, .pos 9, .pos 10, .pos 11, .pos 12, .pos 13, .pos 14] (.zero)) (.bv [.zero, .zero, .zero, .zero, .zero, .zero, .zero, .zero, .zero, .zero, .zero, .zero, .zero, .zero, .zero, .zero, .zero, .zero, .zero, .zero, .pos 15, .pos 16, .pos 17, .pos 18, .pos 19, .pos 20, .pos 21, .pos 22, .pos 23, .pos 24, .pos 25, .pos 26] (.zero))))), objs := [], n := 9 })
theorem sum49_12 : leafOf LStart 7 ((ev cx48 4000).call 49 sum49_a12 (stG LStart 7)) = sum49_r12 := by kernel_rfl
def sum49_a13 : List V := [instX (.lit (Int.ofNat 14)) (wordX 0 5) (wordX 5 5) (wordX 10 5)]
def sum49_r13 : R Leaf := (.ok { v := (.int .u32 (.wrap .u32 (.add (.bv [.one, .one, .zero, .zero, .zero, .zero, .zero, .pos 0, .pos 1, .pos 2, .pos 3, .pos 4, .zero, .zero, .one, .pos 5, .pos 6, .pos 7, .pos 8, .pos 9, .pos 10, .pos 11, .pos 12, .pos 13, .pos 14] (.zero)) (.bv [.zero, .zero, .zero, .zero, .zero, .zero, .zero, .zero, .zero, .zero, .zero, .zero, .zero, .zero, .zero, .zero, .zero, .zero, .zero, .zero, .pos 15, .pos 16, .pos 17, .pos 18, .pos 19, .pos 20, .pos 21, .pos 22, .pos 23, .pos 24, .pos 25, .pos 26] (.zero))))), objs := [], n := 9 })
theorem sum49_13 : leafOf LStart 7 ((ev cx48 4000).call 49 sum49_a13 (stG LStart 7)) = sum49_r13 := by kernel_rfl
def sum49_a14 : List V := [instX (.lit (Int.ofNat 15)) (wordX 0 5) (wordX 5 5) (wordX 10 5)]
def sum49_r14 : R Leaf := (.ok { v := (.int .u32 (.wrap .u32 (.add (.bv [.one, .one, .zero, .zero, .zero, .zero, .zero, .pos 0, .pos 1, .pos 2, .pos 3, .pos 4, .one, .zero, .one, .pos 5, .pos 6, .pos 7, .pos 8, .pos 9, .pos 10, .pos 11, .pos 12, .pos 13, .pos 14] (.zero)) (.bv [.zero, .zero, .zero, .zero, .zero, .zero, .zero, .zero, .zero, .zero, .zero, .zero, .zero, .zero, .zero, .zero, .zero, .zero, .zero, .zero, .pos 15, .pos 16, .pos 17, .pos 18, .pos 19, .pos 20, .pos 21, .pos 22, .pos 23, .pos 24, .pos 25, .pos 26] (.zero))))), objs := [], n := 9 })
theorem sum49_14 : leafOf LStart 7 ((ev cx48 4000).call 49 sum49_a14 (stG LStart 7)) = sum49_r14 := by kernel_rfl
def sum49_a15 : List V := [instX (.lit (Int.ofNat 16)) (wordX 0 5) (wordX 5 5) (wordX 10 5)]
def sum49_r15 : R Leaf := (.ok { v := (.int .u32 (.wrap .u32 (.add (.bv [.one, .one, .zero, .zero, .zero, .one, .zero, .pos 0, .pos 1, .pos 2, .pos 3, .pos 4, .zero, .zero, .zero, .pos 5, .pos 6, .pos 7, .pos 8, .pos 9, .pos 10, .pos 11, .pos 12, .pos 13, .pos 14, .pos 20, .pos 21, .pos 22, .pos 23, .pos 24, .pos 25, .pos 26] (.zero)) (.bv [.zero, .zero, .zero, .zero, .zero, .zero, .zero, .pos 15, .pos 16, .pos 17, .pos 18, .pos 19] (.zero))))), objs := [], n := 9 })
theorem sum49_15 : leafOf LStart 7 ((ev cx48 4000).call 49 sum49_a15 (stG LStart 7)) = sum49_r15 := by kernel_rfl
def sum49_a16 : List V := [instX (.lit (Int.ofNat 17)) (wordX 0 5) (wordX 5 5) (wordX 10 5)]
def sum49_r16 : R Leaf := (.ok { v := (.int .u32 (.wrap .u32 (.add (.bv [.one, .one, .zero, .zero, .zero, .one, .zero, .pos 0, .pos 1, .pos 2, .pos 3, .pos 4, .one, .zero, .zero, .pos 5, .pos 6, .pos 7, .pos 8, .pos 9, .pos 10, .pos 11, .pos 12, .pos 13, .pos 14, .pos 20, .pos 21, .pos 22, .pos 23, .pos 24, .pos 25, .pos 26] (.zero)) (.bv [.zero, .zero, .zero, .zero, .zero, .zero, .zero, .pos 15, .pos 16, .pos 17, .pos 18, .pos 19] (.zero))))), objs := [], n := 9 })
theorem sum49_16 : leafOf LStart 7 ((ev cx48 4000).call 49 sum49_a16 (stG LStart 7)) = sum49_r16 := by kernel_rfl
def sum49_a17 : List V := [instX (.lit (Int.ofNat 18)) (wordX 0 5) (wordX 5 5) (wordX 10 5)]
def sum49_r17 : R Leaf := (.ok { v := (.int .u32 (.wrap .u32 (.add (.bv [.one, .one, .zero, .zero, .zero, .one, .zero, .pos 0, .pos 1, .pos 2, .pos 3, .pos 4, .zero, .one, .zero, .pos 5, .pos 6, .pos 7, .pos 8, .pos 9, .pos 10, .pos 11, .pos 12, .pos 13, .pos 14, .pos 20, .pos 21, .pos 22, .pos 23, .pos 24, .pos 25, .pos 26] (.zero)) (.bv [.zero, .zero, .zero, .zero, .zero, .zero, .zero, .pos 15, .pos 16, .pos 17, .pos 18, .pos 19] (.zero))))), objs := [], n := 9 })
theorem sum49_17 : leafOf LStart 7 ((ev cx48 4000).call 49 sum49_a17 (stG LStart 7)) = sum49_r17 := by kernel_rfl
def sum49_a18 : List V := [instX (.lit (Int.ofNat 19)) (wordX 0 5) (wordX 5 5) (wordX 10 5)]
def sum49_r18 : R Leaf := (.ok { v := (.int .u32 (.wrap .u32 (.add (.bv [.one, .one, .zero, .zero, .one, .zero, .zero, .pos 0, .pos 1, .pos 2, .pos 3, .pos 4, .zero, .zero, .zero, .pos 5, .pos 6, .pos 7, .pos 8, .pos 9, .pos 10, .pos 11, .pos 12, .pos 13, .pos 14] (.zero)) (.bv [.zero, .zero, .zero, .zero, .zero, .zero, .zero, .zero, .zero, .zero, .zero, .zero, .zero, .zero, .zero, .zero, .zero, .zero, .zero, .zero, .pos 15, .pos 16, .pos 17, .pos 18, .pos 19, .pos 20, .pos 21, .pos 22, .pos 23, .pos 24, .pos 25, .pos 26] (.zero))))), objs := [], n := 9 })
theorem sum49_18 : leafOf LStart 7 ((ev cx48 4000).call 49 sum49_a18 (stG LStart 7)) = sum49_r18 := by kernel_rfl
def sum49_a19 : List V := [instX (.lit (Int.ofNat 20)) (wordX 0 5) (wordX 5 5) (wordX 10 5)]
def sum49_r19 : R Leaf := (.ok { v := (.int .u32 (.wrap .u32 (.add (.bv [.one, .one, .zero, .zero, .one, .zero, .zero, .pos 0, .pos 1, .pos 2, .pos 3, .pos 4, .zero, .one, .zero, .pos 5, .pos 6, .pos 7, .pos 8, .pos 9, .pos 10, .pos 11, .pos 12, .pos 13, .pos 14] (.zero)) (.bv [.zero, .zero, .zero, .zero, .zero, .zero, .zero, .zero, .zero, .zero, .zero, .zero, .zero, .zero, .zero, .zero, .zero, .zero, .zero, .zero, .pos 15, .pos 16, .pos 17, .pos 18, .pos 19, .pos 20, .pos 21, .pos 22, .pos 23, .pos 24, .pos 25, .pos 26] (.zero))))), objs := [], n := 9 })
theorem sum49_19 : leafOf LStart 7 ((ev cx48 4000).call 49 sum49_a19 (stG LStart 7)) = sum49_r19 := by kernel_rfl
def sum49_a20 : List V := [instX (.lit (Int.ofNat 21)) (wordX 0 5) (wordX 5 5) (wordX 10 5)]
def sum49_r20 : R Leaf := (.ok { v := (.int .u32 (.wrap .u32 (.add (.bv [.one, .one, .zero, .zero, .one, .zero, .zero, .pos 0, .pos 1, .pos 2, .pos 3, .pos 4, .one, .one, .zero, .pos 5, .pos 6, .pos 7, .pos 8, .pos 9, .pos 10, .pos 11, .pos 12, .pos 13, .pos 14] (.zero)) (.bv [.zero, .zero, .zero, .zero, .zero, .zero, .zero, .zero, .zero, .zero, .zero, .zero, .zero, .zero, .zero, .zero, .zero, .zero, .zero, .zero, .pos 15, .pos 16, .pos 17, .pos 18, .pos 19, .pos 20, .pos 21, .pos 22, .pos 23, .pos 24, .pos 25, .pos 26] (.zero))))), objs := [], n := 9 })
theorem sum49_20 : leafOf LStart 7 ((ev cx48 4000).call 49 sum49_a20 (stG LStart 7)) = sum49_r20 := by kernel_rfl
def sum49_a21 : List V := [instX (.lit (Int.ofNat 22)) (wordX 0 5) (wordX 5 5) (wordX 10 5)]
def sum49_r21 : R Leaf := (.ok { v := (.int .u32 (.wrap .u32 (.add (.bv [.one, .one, .zero, .zero, .one, .zero, .zero, .pos 0, .pos 1, .pos 2, .pos 3, .pos 4, .zero, .zero, .one, .pos 5, .pos 6, .pos 7, .pos 8, .pos 9, .pos 10, .pos 11, .pos 12, .pos 13, .pos 14] (.zero)) (.bv [.zero, .zero, .zero, .zero, .zero, .zero, .zero, .zero, .zero, .zero, .zero, .zero, .zero, .zero, .zero, .zero, .zero, .zero, .zero, .zero, .pos 15, .pos 16, .pos 17, .pos 18, .pos 19, .pos 20, .pos 21, .pos 22, .pos 23, .pos 24, .pos 25, .pos 26] (.zero))))), objs := [], n := 9 })
theorem sum49_21 : leafOf LStart 7 ((ev cx48 4000).call 49 sum49_a21 (stG LStart 7)) = sum49_r21 := by kernel_rfl
def sum49_a22 : List V := [instX (.lit (Int.ofNat 23)) (wordX 0 5) (wordX 5 5) (wordX 10 5)]
def sum49_r22 : R Leaf := (.ok { v := (.int .u32 (.wrap .u32 (.add (.bv [.one, .one, .zero, .zero, .one, .zero, .zero, .pos 0, .pos 1, .pos 2, .pos 3, .pos 4, .zero, .one, .one, .pos 5, .pos 6, .pos 7, .pos 8, .pos 9, .pos 10, .pos 11, .pos 12, .pos 13, .pos 14] (.zero)) (.bv [.zero, .zero, .zero, .zero, .zero, .zero, .zero, .zero, .zero, .zero, .zero, .zero, .zero, .zero, .zero, .zero, .zero, .zero, .zero, .zero, .pos 15, .pos 16, .pos 17, .pos 18, .pos 19, .pos 20, .pos 21, .pos 22, .pos 23, .pos 24, .pos 25, .pos 26] (.zero))))), objs := [], n := 9 })
theorem sum49_22 : leafOf LStart 7 ((ev cx48 4000).call 49 sum49_a22 (stG LStart 7)) = sum49_r22 := by kernel_rfl
def sum49_a23 : List V := [instX (.lit (Int.ofNat 24)) (wordX 0 5) (wordX 5 5) (wordX 10 5)]
def sum49_r23 : R Leaf := (.ok { v := (.int .u32 (.wrap .u32 (.add (.bv [.one, .one, .zero, .zero, .one, .zero, .zero, .pos 0, .pos 1, .pos 2, .pos 3, .pos 4, .one, .one, .one, .pos 5, .pos 6, .pos 7, .pos 8, .pos 9, .pos 10, .pos 11, .pos 12, .pos 13, .pos 14] (.zero)) (.bv [.zero, .zero, .zero, .zero, .zero, .zero, .zero, .zero, .zero, .zero, .zero, .zero, .zero, .zero, .zero, .zero, .zero, .zero, .zero, .zero, .pos 15, .pos 16, .pos 17, .pos 18, .pos 19, .pos 20, .pos 21, .pos 22, .pos 23, .pos 24, .pos 25, .pos 26] (.zero))))), objs := [], n := 9 })
theorem sum49_23 : leafOf LStart 7 ((ev cx48 4000).call 49 sum49_a23 (stG LStart 7)) = sum49_r23 := by kernel_rfl
def sum49_a24 : List V := [instX (.lit (Int.ofNat 25)) (wordX 0 5) (wordX 5 5) (wordX 10 5)]
def sum49_r24 : R Leaf := (.ok { v := (.int .u32 (.wrap .u32 (.add (.bv [.one, .one, .zero, .zero, .one, .zero, .zero, .pos 0, .pos 1, .pos 2, .pos 3, .pos 4, .one, .zero, .zero, .pos 5, .pos 6, .pos 7, .pos 8, .pos 9, .pos 10, .pos 11, .pos 12, .pos 13, .pos 14] (.zero)) (.bv [.zero, .zero, .zero, .zero, .zero, .zero, .zero, .zero, .zero, .zero, .zero, .zero, .zero, .zero, .zero, .zero, .zero, .zero, .zero, .zero, .pos 15, .pos 16, .pos 17, .pos 18, .pos 19, .pos 20, .pos 21, .pos 22, .pos 23, .pos 24, .pos 25, .pos 26] (.zero))))), objs := [], n := 9 })
theorem sum49_24 : leafOf LStart 7 ((ev cx48 4000).call 49 sum49_a24 (stG LStart 7)) = sum49_r24 := by kernel_rfl
def sum49_a25 : List V := [instX (.lit (Int.ofNat 26)) (wordX 0 5) (wordX 5 5) (wordX 10 5)]
def sum49_r25 : R Leaf := (.ok { v := (.int .u32 (.wrap .u32 (.add (.bv [.one, .one, .zero, .zero, .one, .zero, .zero, .pos 0, .pos 1, .pos 2, .pos 3, .pos 4, .one, .zero, .one, .pos 5, .pos 6, .pos 7, .pos 8, .pos 9, .pos 10, .pos 11, .pos 12, .pos 13, .pos 14] (.zero)) (.bv [.zero, .zero, .zero, .zero, .zero, .zero, .zero, .zero, .zero, .zero, .zero, .zero, .zero, .zero, .zero, .zero, .zero, .zero, .zero, .zero, .pos 15, .pos 16, .pos 17, .pos 18, .pos 19, .pos 20, .pos 21, .pos 22, .pos 23, .pos 24, .pos 25, .pos 26] (.zero))))), objs := [], n := 9 })
theorem sum49_25 : leafOf LStart 7 ((ev cx48 4000).call 49 sum49_a25 (stG LStart 7)) = sum49_r25 := by kernel_rfl
def sum49_a26 : List V := [instX (.lit (Int.ofNat 27)) (wordX 0 5) (wordX 5 5) (wordX 10 5)]
def sum49_r26 : R Leaf := (.ok { v := (.int .u32 (.wrap .u32 (.add (.bv [.one, .one, .zero, .zero, .one, .zero, .zero, .pos 0, .pos 1, .pos 2, .pos 3, .pos 4, .one, .zero, .one, .pos 5, .pos 6, .pos 7, .pos 8, .pos 9, .pos 10, .pos 11, .pos 12, .pos 13, .pos 14, .zero, .zero, .zero, .zero, .zero, .one] (.zero)) (.bv [.zero, .zero, .zero, .zero, .zero, .zero, .zero, .zero, .zero, .zero, .zero, .zero, .zero, .zero, .zero, .zero, .zero, .zero, .zero, .zero, .pos 15, .pos 16, .pos 17, .pos 18, .pos 19, .pos 20, .pos 21, .pos 22, .pos 23, .pos 24, .pos 25, .pos 26] (.zero))))), objs := [], n := 9 })
theorem sum49_26 : leafOf LStart 7 ((ev cx48 4000).call 49 sum49_a26 (stG LStart 7)) = sum49_r26 := by kernel_rfl
def sum49_a27 : List V := [instX (.lit (Int.ofNat 28)) (wordX 0 5) (wordX 5 5) (wordX 10 5)]
def sum49_r27 : R Leaf := (.ok { v := (.int .u32 (.bv [.one, .one, .zero, .zero, .one, .one, .zero, .pos 0, .pos 1, .pos 2, .pos 3, .pos 4, .zero, .zero, .zero, .pos 5, .pos 6, .pos 7, .pos 8, .pos 9, .pos 10, .pos 11, .pos 12, .pos 13, .pos 14] (.zero))), objs := [], n := 9 })
theorem sum49_27 : leafOf LStart 7 ((ev cx48 4000).call 49 sum49_a27 (stG LStart 7)) = sum49_r27 := by kernel_rfl
def sum49_a28 : List V := [instX (.lit (Int.ofNat 29)) (wordX 0 5) (wordX 5 5) (wordX 10 5)]
def sum49_r28 : R Leaf := (.ok { v := (.int .u32 (.bv [.one, .one, .zero, .zero, .one, .one, .zero, .pos 0, .pos 1, .pos 2, .pos 3, .pos 4, .zero, .zero, .zero, .pos 5, .pos 6, .pos 7, .pos 8, .pos 9, .pos 10, .pos 11, .pos 12, .pos 13, .pos 14, .zero, .zero, .zero, .zero, .zero, .one] (.zero))), objs := [], n := 9 })
theorem sum49_28 : leafOf LStart 7 ((ev cx48 4000).call 49 sum49_a28 (stG LStart 7)) = sum49_r28 := by kernel_rfl
def sum49_a29 : List V := [instX (.lit (Int.ofNat 30)) (wordX 0 5) (wordX 5 5) (wordX 10 5)]
def sum49_r29 : R Leaf := (.ok { v := (.int .u32 (.bv [.one, .one, .zero, .zero, .one, .one, .zero, .pos 0, .pos 1, .pos 2, .pos 3, .pos 4, .one, .zero, .zero, .pos 5, .pos 6, .pos 7, .pos 8, .pos 9, .pos 10, .pos 11, .pos 12, .pos 13, .pos 14] (.zero))), objs := [], n := 9 })
theorem sum49_29 : leafOf LStart 7 ((ev cx48 4000).call 49 sum49_a29 (stG LStart 7)) = sum49_r29 := by kernel_rfl
def sum49_a30 : List V := [instX (.lit (Int.ofNat 31)) (wordX 0 5) (wordX 5 5) (wordX 10 5)]
def sum49_r30 : R Leaf := (.ok { v := (.int .u32 (.bv [.one, .one, .zero, .zero, .one, .one, .zero, .pos 0, .pos 1, .pos 2, .pos 3, .pos 4, .zero, .one, .zero, .pos 5, .pos 6, .pos 7, .pos 8, .pos 9, .pos 10, .pos 11, .pos 12, .pos 13, .pos 14] (.zero))), objs := [], n := 9 })
theorem sum49_30 : leafOf LStart 7 ((ev cx48 4000).call 49 sum49_a30 (stG LStart 7)) = sum49_r30 := by kernel_rfl
def sum49_a31 : List V := [instX (.lit (Int.ofNat 32)) (wordX 0 5) (wordX 5 5) (wordX 10 5)]
def sum49_r31 : R Leaf := (.ok { v := (.int .u32 (.bv [.one, .one, .zero, .zero, .one, .one, .zero, .pos 0, .pos 1, .pos 2, .pos 3, .pos 4, .one, .one, .zero, .pos 5, .pos 6, .pos 7, .pos 8, .pos 9, .pos 10, .pos 11, .pos 12, .pos 13, .pos 14] (.zero))), objs := [], n := 9 })
theorem sum49_31 : leafOf LStart 7 ((ev cx48 4000).call 49 sum49_a31 (stG LStart 7)) = sum49_r31 := by kernel_rfl
def sum49_a32 : List V := [instX (.lit (Int.ofNat 33)) (wordX 0 5) (wordX 5 5) (wordX 10 5)]
def sum49_r32 : R Leaf := (.ok { v := (.int .u32 (.bv [.one, .one, .zero, .zero, .one, .one, .zero, .pos 0, .pos 1, .pos 2, .pos 3, .pos 4, .zero, .zero, .one, .pos 5, .pos 6, .pos 7, .pos 8, .pos 9, .pos 10, .pos 11, .pos 12, .pos 13, .pos 14] (.zero))), objs := [], n := 9 })
theorem sum49_32 : leafOf LStart 7 ((ev cx48 4000).call 49 sum49_a32 (stG LStart 7)) = sum49_r32 := by kernel_rfl
def sum49_a33 : List V := [instX (.lit (Int.ofNat 34)) (wordX 0 5) (wordX 5 5) (wordX 10 5)]
def sum49_r33 : R Leaf := (.ok { v := (.int .u32 (.bv [.one, .one, .zero, .zero, .one, .one, .zero, .pos 0, .pos 1, .pos 2, .pos 3, .pos 4, .one, .zero, .one, .pos 5, .pos 6, .pos 7, .pos 8, .pos 9, .pos 10, .pos 11, .pos 12, .pos 13, .pos 14] (.zero))), objs := [], n := 9 })
theorem sum49_33 : leafOf LStart 7 ((ev cx48 4000).call 49 sum49_a33 (stG LStart 7)) = sum49_r33 := by kernel_rfl
def sum49_a34 : List V := [instX (.lit (Int.ofNat 35)) (wordX 0 5) (wordX 5 5) (wordX 10 5)]
def sum49_r34 : R Leaf := (.ok { v := (.int .u32 (.bv [.one, .one, .zero, .zero, .one, .one, .zero, .pos 0, .pos 1, .pos 2, .pos 3, .pos 4, .one, .zero, .one, .pos 5, .pos 6, .pos 7, .pos 8, .pos 9, .pos 10, .pos 11, .pos 12, .pos 13, .pos 14, .zero, .zero, .zero, .zero, .zero, .one] (.zero))), objs := [], n := 9 })
theorem sum49_34 : leafOf LStart 7 ((ev cx48 4000).call 49 sum49_a34 (stG LStart 7)) = sum49_r34 := by kernel_rfl
def sum49_a35 : List V := [instX (.lit (Int.ofNat 36)) (wordX 0 5) (wordX 5 5) (wordX 10 5)]
def sum49_r35 : R Leaf := (.ok { v := (.int .u32 (.bv [.one, .one, .zero, .zero, .one, .one, .zero, .pos 0, .pos 1, .pos 2, .pos 3, .pos 4, .zero, .one, .one, .pos 5, .pos 6, .pos 7, .pos 8, .pos 9, .pos 10, .pos 11, .pos 12, .pos 13, .pos 14] (.zero))), objs := [], n := 9 })
theorem sum49_35 : leafOf LStart 7 ((ev cx48 4000).call 49 sum49_a35 (stG LStart 7)) = sum49_r35 := by kernel_rfl
def sum49_a36 : List V := [instX (.lit (Int.ofNat 37)) (wordX 0 5) (wordX 5 5) (wordX 10 5)]
def sum49_r36 : R Leaf := (.ok { v := (.int .u32 (.bv [.one, .one, .zero, .zero, .one, .one, .zero, .pos 0, .pos 1, .pos 2, .pos 3, .pos 4, .one, .one, .one, .pos 5, .pos 6, .pos 7, .pos 8, .pos 9, .pos 10, .pos 11, .pos 12, .pos 13, .pos 14] (.zero))), objs := [], n := 9 })
theorem sum49_36 : leafOf LStart 7 ((ev cx48 4000).call 49 sum49_a36 (stG LStart 7)) = sum49_r36 := by kernel_rfl
def sum49_a37 : List V := [instX (.lit (Int.ofNat 38)) (wordX 0 5) (wordX 5 5) (wordX 10 5)]
def sum49_r37 : R Leaf := (.ok { v := (.int .u32 (.wrap .u32 (.add (.bv [.one, .one, .one, .one, .zero, .zero, .zero, .pos 0, .pos 1, .pos 2, .pos 3, .pos 4, .zero, .zero, .zero, .pos 5, .pos 6, .pos 7, .pos 8, .pos 9, .pos 10, .pos 11, .pos 12, .pos 13, .pos 14] (.zero)) (.bv [.zero, .zero, .zero, .zero, .zero, .zero, .zero, .zero, .zero, .zero, .zero, .zero, .zero, .zero, .zero, .zero, .zero, .zero, .zero, .zero, .pos 15, .pos 16, .pos 17, .pos 18, .pos 19, .pos 20, .pos 21, .pos 22, .pos 23, .pos 24, .pos 25, .pos 26] (.zero))))), objs := [], n := 9 })
theorem sum49_37 : leafOf LStart 7 ((ev cx48 4000).call 49 sum49_a37 (stG LStart 7)) = sum49_r37 := by kernel_rfl
def sum49_a38 : List V := [instX (.lit (Int.ofNat 39)) (wordX 0 5) (wordX 5 5) (wordX 10 5)]
def sum49_r38 : R Leaf := (.ok { v := (.int .u32 (.bv [.one, .one, .zero, .zero, .one, .one, .one, .pos 0, .pos 1, .pos 2, .pos 3, .pos 4, .zero, .zero, .zero, .pos 5, .pos 6, .pos 7, .pos 8, .pos 9, .pos 10, .pos 11, .pos 12, .pos 13, .pos 14] (.zero))), objs := [], n := 9 })
theorem sum49_38 : leafOf LStart 7 ((ev cx48 4000).call 49 sum49_a38 (stG LStart 7)) = sum49_r38 := by kernel_rfl
def sum49_a39 : List V := [instX (.lit (Int.ofNat 40)) (wordX 0 5) (wordX 5 5) (wordX 10 5)]
def sum49_r39 : R Leaf := (.ok { v := (.int .u32 (.bv [.one, .one, .zero, .zero, .one, .one, .zero, .pos 0, .pos 1, .pos 2, .pos 3, .pos 4, .zero, .zero, .zero, .pos 5, .pos 6, .pos 7, .pos 8, .pos 9, .pos 10, .pos 11, .pos 12, .pos 13, .pos 14, .one] (.zero))), objs := [], n := 9 })
theorem sum49_39 : leafOf LStart 7 ((ev cx48 4000).call 49 sum49_a39 (stG LStart 7)) = sum49_r39 := by kernel_rfl
def sum49_a40 : List V := [instX (.lit (Int.ofNat 41)) (wordX 0 5) (wordX 5 5) (wordX 10 5)]
def sum49_r40 : R Leaf := (.ok { v := (.int .u32 (.bv [.one, .one, .zero, .zero, .one, .one, .zero, .pos 0, .pos 1, .pos 2, .pos 3, .pos 4, .one, .zero, .zero, .pos 5, .pos 6, .pos 7, .pos 8, .pos 9, .pos 10, .pos 11, .pos 12, .pos 13, .pos 14, .one] (.zero))), objs := [], n := 9 })
theorem sum49_40 : leafOf LStart 7 ((ev cx48 4000).call 49 sum49_a40 (stG LStart 7)) = sum49_r40 := by kernel_rfl
def sum49_a41 : List V := [instX (.lit (Int.ofNat 42)) (wordX 0 5) (wordX 5 5) (wordX 10 5)]
def sum49_r41 : R Leaf := (.ok { v := (.int .u32 (.bv [.one, .one, .zero, .zero, .one, .one, .zero, .pos 0, .pos 1, .pos 2, .pos 3, .pos 4, .zero, .one, .zero, .pos 5, .pos 6, .pos 7, .pos 8, .pos 9, .pos 10, .pos 11, .pos 12, .pos 13, .pos 14, .one] (.zero))), objs := [], n := 9 })
theorem sum49_41 : leafOf LStart 7 ((ev cx48 4000).call 49 sum49_a41 (stG LStart 7)) = sum49_r41 := by kernel_rfl
def sum49_a42 : List V := [instX (.lit (Int.ofNat 43)) (wordX 0 5) (wordX 5 5) (wordX 10 5)]
def sum49_r42 : R Leaf := (.ok { v := (.int .u32 (.bv [.one, .one, .zero, .zero, .one, .one, .zero, .pos 0, .pos 1, .pos 2, .pos 3, .pos 4, .one, .one, .zero, .pos 5, .pos 6, .pos 7, .pos 8, .pos 9, .pos 10, .pos 11, .pos 12, .pos 13, .pos 14, .one] (.zero))), objs := [], n := 9 })
theorem sum49_42 : leafOf LStart 7 ((ev cx48 4000).call 49 sum49_a42 (stG LStart 7)) = sum49_r42 := by kernel_rfl
def sum49_a43 : List V := [instX (.lit (Int.ofNat 44)) (wordX 0 5) (wordX 5 5) (wordX 10 5)]
def sum49_r43 : R Leaf := (.ok { v := (.int .u32 (.bv [.one, .one, .zero, .zero, .one, .one, .zero, .pos 0, .pos 1, .pos 2, .pos 3, .pos 4, .zero, .zero, .one, .pos 5, .pos 6, .pos 7, .pos 8, .pos 9, .pos 10, .pos 11, .pos 12, .pos 13, .pos 14, .one] (.zero))), objs := [], n := 9 })
theorem sum49_43 : leafOf LStart 7 ((ev cx48 4000).call 49 sum49_a43 (stG LStart 7)) = sum49_r43 := by kernel_rfl
def sum49_a44 : List V := [instX (.lit (Int.ofNat 45)) (wordX 0 5) (wordX 5 5) (wordX 10 5)]
def sum49_r44 : R Leaf := (.ok { v := (.int .u32 (.bv [.one, .one, .zero, .zero, .one, .one, .zero, .pos 0, .pos 1, .pos 2, .pos 3, .pos 4, .one, .zero, .one, .pos 5, .pos 6, .pos 7, .pos 8, .pos 9, .pos 10, .pos 11, .pos 12, .pos 13, .pos 14, .one] (.zero))), objs := [], n := 9 })
theorem sum49_44 : leafOf LStart 7 ((ev cx48 4000).call 49 sum49_a44 (stG LStart 7)) = sum49_r44 := by kernel_rfl
def sum49_a45 : List V := [instX (.lit (Int.ofNat 46)) (wordX 0 5) (wordX 5 5) (wordX 10 5)]
def sum49_r45 : R Leaf := (.ok { v := (.int .u32 (.bv [.one, .one, .zero, .zero, .one, .one, .zero, .pos 0, .pos 1, .pos 2, .pos 3, .pos 4, .zero, .one, .one, .pos 5, .pos 6, .pos 7, .pos 8, .pos 9, .pos 10, .pos 11, .pos 12, .pos 13, .pos 14, .one] (.zero))), objs := [], n := 9 })
theorem sum49_45 : leafOf LStart 7 ((ev cx48 4000).call 49 sum49_a45 (stG LStart 7)) = sum49_r45 := by kernel_rfl
def sum49_a46 : List V := [instX (.lit (Int.ofNat 47)) (wordX 0 5) (wordX 5 5) (wordX 10 5)]
def sum49_r46 : R Leaf := (.ok { v := (.int .u32 (.bv [.one, .one, .zero, .zero, .one, .one, .zero, .pos 0, .pos 1, .pos 2, .pos 3, .pos 4, .one, .one, .one, .pos 5, .pos 6, .pos 7, .pos 8, .pos 9, .pos 10, .pos 11, .pos 12, .pos 13, .pos 14, .one] (.zero))), objs := [], n := 9 })
theorem sum49_46 : leafOf LStart 7 ((ev cx48 4000).call 49 sum49_a46 (stG LStart 7)) = sum49_r46 := by kernel_rfl
def sum49_a47 : List V := [instX (.lit (Int.ofNat 48)) (wordX 0 5) (wordX 5 5) (wordX 10 5)]
def sum49_r47 : R Leaf := (.br (.cube 140737488355328 140737488355328)
 (.br (.cube 281474976710656 281474976710656)
  (.ok { v := (.int .u32 (.bv [.one, .one, .one, .one, .zero, .one, .zero, .pos 0, .pos 1, .pos 2, .pos 3, .pos 4, .zero, .one, .zero, .pos 5, .pos 6, .pos 7, .pos 8, .pos 9, .pos 10, .pos 11, .pos 12, .pos 13, .pos 14, .one, .one, .zero, .one] (.zero))), objs := [], n := 10 })
  (.ok { v := (.int .u32 (.bv [.one, .one, .one, .one, .zero, .one, .zero, .pos 0, .pos 1, .pos 2, .pos 3, .pos 4, .zero, .one, .zero, .pos 5, .pos 6, .pos 7, .pos 8, .pos 9, .pos 10, .pos 11, .pos 12, .pos 13, .pos 14, .zero, .one, .zero, .one] (.zero))), objs := [], n := 10 }))
 (.br (.cube 281474976710656 281474976710656)
  (.ok { v := (.int .u32 (.bv [.one, .one, .one, .one, .zero, .one, .zero, .pos 0, .pos 1, .pos 2, .pos 3, .pos 4, .zero, .one, .zero, .pos 5, .pos 6, .pos 7, .pos 8, .pos 9, .pos 10, .pos 11, .pos 12, .pos 13, .pos 14, .one, .zero, .zero, .one] (.zero))), objs := [], n := 10 })
  (.ok { v := (.int .u32 (.bv [.one, .one, .one, .one, .zero, .one, .zero, .pos 0, .pos 1, .pos 2, .pos 3, .pos 4, .zero, .one, .zero, .pos 5, .pos 6, .pos 7, .pos 8, .pos 9, .pos 10, .pos 11, .pos 12, .pos 13, .pos 14, .zero, .zero, .zero, .one] (.zero))), objs := [], n := 10 })))
theorem sum49_47 : leafOf LStart 7 ((ev cx48 4000).call 49 sum49_a47 (stG LStart 7)) = sum49_r47 := by kernel_rfl
def sum49_a48 : List V := [instX (.lit (Int.ofNat 49)) (wordX 0 5) (wordX 5 5) (wordX 10 5)]
def sum49_r48 : R Leaf := (.br (.cube 140737488355328 140737488355328)
 (.br (.cube 281474976710656 281474976710656)
  (.ok { v := (.int .u32 (.bv [.one, .one, .one, .one, .zero, .one, .zero, .pos 0, .pos 1, .pos 2, .pos 3, .pos 4, .zero, .one, .zero, .pos 5, .pos 6, .pos 7, .pos 8, .pos 9, .pos 10, .pos 11, .pos 12, .pos 13, .pos 14, .one, .one, .one, .one] (.zero))), objs := [], n := 10 })
  (.ok { v := (.int .u32 (.bv [.one, .one, .one, .one, .zero, .one, .zero, .pos 0, .pos 1, .pos 2, .pos 3, .pos 4, .zero, .one, .zero, .pos 5, .pos 6, .pos 7, .pos 8, .pos 9, .pos 10, .pos 11, .pos 12, .pos 13, .pos 14, .zero, .one, .one, .one] (.zero))), objs := [], n := 10 }))
 (.br (.cube 281474976710656 281474976710656)
  (.ok { v := (.int .u32 (.bv [.one, .one, .one, .one, .zero, .one, .zero, .pos 0, .pos 1, .pos 2, .pos 3, .pos 4, .zero, .one, .zero, .pos 5, .pos 6, .pos 7, .pos 8, .pos 9, .pos 10, .pos 11, .pos 12, .pos 13, .pos 14, .one, .zero, .one, .one] (.zero))), objs := [], n := 10 })
  (.ok { v := (.int .u32 (.bv [.one, .one, .one, .one, .zero, .one, .zero, .pos 0, .pos 1, .pos 2, .pos 3, .pos 4, .zero, .one, .zero, .pos 5, .pos 6, .pos 7, .pos 8, .pos 9, .pos 10, .pos 11, .pos 12, .pos 13, .pos 14, .zero, .zero, .one, .one] (.zero))), objs := [], n := 10 })))
theorem sum49_48 : leafOf LStart 7 ((ev cx48 4000).call 49 sum49_a48 (stG LStart 7)) = sum49_r48 := by kernel_rfl
def sum49_a49 : List V := [instX (.lit (Int.ofNat 50)) (wordX 0 5) (wordX 5 5) (wordX 10 5)]
def sum49_r49 : R Leaf := (.br (.cube 140737488355328 140737488355328)
 (.br (.cube 281474976710656 281474976710656)
  (.ok { v := (.int .u32 (.bv [.one, .one, .one, .one, .zero, .one, .zero, .pos 0, .pos 1, .pos 2, .pos 3, .pos 4, .zero, .one, .zero, .pos 5, .pos 6, .pos 7, .pos 8, .pos 9, .pos 10, .pos 11, .pos 12, .pos 13, .pos 14, .one, .one, .one] (.zero))), objs := [], n := 10 })
  (.ok { v := (.int .u32 (.bv [.one, .one, .one, .one, .zero, .one, .zero, .pos 0, .pos 1, .pos 2, .pos 3, .pos 4, .zero, .one, .zero, .pos 5, .pos 6, .pos 7, .pos 8, .pos 9, .pos 10, .pos 11, .pos 12, .pos 13, .pos 14, .zero, .one, .one] (.zero))), objs := [], n := 10 }))
 (.br (.cube 281474976710656 281474976710656)
  (.ok { v := (.int .u32 (.bv [.one, .one, .one, .one, .zero, .one, .zero, .pos 0, .pos 1, .pos 2, .pos 3, .pos 4, .zero, .one, .zero, .pos 5, .pos 6, .pos 7, .pos 8, .pos 9, .pos 10, .pos 11, .pos 12, .pos 13, .pos 14, .one, .zero, .one] (.zero))), objs := [], n := 10 })
  (.ok { v := (.int .u32 (.bv [.one, .one, .one, .one, .zero, .one, .zero, .pos 0, .pos 1, .pos 2, .pos 3, .pos 4, .zero, .one, .zero, .pos 5, .pos 6, .pos 7, .pos 8, .pos 9, .pos 10, .pos 11, .pos 12, .pos 13, .pos 14, .zero, .zero, .one] (.zero))), objs := [], n := 10 })))
theorem sum49_49 : leafOf LStart 7 ((ev cx48 4000).call 49 sum49_a49 (stG LStart 7)) = sum49_r49 := by kernel_rfl
def sum49_a50 : List V := [instX (.lit (Int.ofNat 51)) (wordX 0 5) (wordX 5 5) (wordX 10 5)]
def sum49_r50 : R Leaf := (.br (.cube 140737488355328 140737488355328)
 (.br (.cube 281474976710656 281474976710656)
  (.ok { v := (.int .u32 (.bv [.one, .one, .one, .one, .zero, .one, .zero, .pos 0, .pos 1, .pos 2, .pos 3, .pos 4, .zero, .one, .zero, .pos 5, .pos 6, .pos 7, .pos 8, .pos 9, .pos 10, .pos 11, .pos 12, .pos 13, .pos 14, .one, .one] (.zero))), objs := [], n := 10 })
  (.ok { v := (.int .u32 (.bv [.one, .one, .one, .one, .zero, .one, .zero, .pos 0, .pos 1, .pos 2, .pos 3, .pos 4, .zero, .one, .zero, .pos 5, .pos 6, .pos 7, .pos 8, .pos 9, .pos 10, .pos 11, .pos 12, .pos 13, .pos 14, .zero, .one] (.zero))), objs := [], n := 10 }))
 (.br (.cube 281474976710656 281474976710656)
  (.ok { v := (.int .u32 (.bv [.one, .one, .one, .one, .zero, .one, .zero, .pos 0, .pos 1, .pos 2, .pos 3, .pos 4, .zero, .one, .zero, .pos 5, .pos 6, .pos 7, .pos 8, .pos 9, .pos 10, .pos 11, .pos 12, .pos 13, .pos 14, .one] (.zero))), objs := [], n := 10 })
  (.ok { v := (.int .u32 (.bv [.one, .one, .one, .one, .zero, .one, .zero, .pos 0, .pos 1, .pos 2, .pos 3, .pos 4, .zero, .one, .zero, .pos 5, .pos 6, .pos 7, .pos 8, .pos 9, .pos 10, .pos 11, .pos 12, .pos 13, .pos 14] (.zero))), objs := [], n := 10 })))
theorem sum49_50 : leafOf LStart 7 ((ev cx48 4000).call 49 sum49_a50 (stG LStart 7)) = sum49_r50 := by kernel_rfl
def sum49_a51 : List V := [instX (.lit (Int.ofNat 52)) (wordX 0 5) (wordX 5 5) (wordX 10 5)]
def sum49_r51 : R Leaf := (.br (.cube 140737488355328 140737488355328)
 (.br (.cube 281474976710656 281474976710656)
  (.ok { v := (.int .u32 (.bv [.one, .one, .one, .one, .zero, .one, .zero, .pos 0, .pos 1, .pos 2, .pos 3, .pos 4, .zero, .one, .zero, .pos 5, .pos 6, .pos 7, .pos 8, .pos 9, .pos 10, .pos 11, .pos 12, .pos 13, .pos 14, .one, .one, .zero, .zero, .one] (.zero))), objs := [], n := 10 })
  (.ok { v := (.int .u32 (.bv [.one, .one, .one, .one, .zero, .one, .zero, .pos 0, .pos 1, .pos 2, .pos 3, .pos 4, .zero, .one, .zero, .pos 5, .pos 6, .pos 7, .pos 8, .pos 9, .pos 10, .pos 11, .pos 12, .pos 13, .pos 14, .zero, .one, .zero, .zero, .one] (.zero))), objs := [], n := 10 }))
 (.br (.cube 281474976710656 281474976710656)
  (.ok { v := (.int .u32 (.bv [.one, .one, .one, .one, .zero, .one, .zero, .pos 0, .pos 1, .pos 2, .pos 3, .pos 4, .zero, .one, .zero, .pos 5, .pos 6, .pos 7, .pos 8, .pos 9, .pos 10, .pos 11, .pos 12, .pos 13, .pos 14, .one, .zero, .zero, .zero, .one] (.zero))), objs := [], n := 10 })
  (.ok { v := (.int .u32 (.bv [.one, .one, .one, .one, .zero, .one, .zero, .pos 0, .pos 1, .pos 2, .pos 3, .pos 4, .zero, .one, .zero, .pos 5, .pos 6, .pos 7, .pos 8, .pos 9, .pos 10, .pos 11, .pos 12, .pos 13, .pos 14, .zero, .zero, .zero, .zero, .one] (.zero))), objs := [], n := 10 })))
theorem sum49_51 : leafOf LStart 7 ((ev cx48 4000).call 49 sum49_a51 (stG LStart 7)) = sum49_r51 := by kernel_rfl
def sum49_a52 : List V := [instX (.lit (Int.ofNat 53)) (wordX 0 5) (wordX 5 5) (wordX 10 5)]
def sum49_r52 : R Leaf := (.br (.cube 140737488355328 140737488355328)
 (.br (.cube 281474976710656 281474976710656)
  (.ok { v := (.int .u32 (.bv [.one, .one, .one, .one, .zero, .one, .zero, .pos 0, .pos 1, .pos 2, .pos 3, .pos 4, .zero, .one, .zero, .pos 5, .pos 6, .pos 7, .pos 8, .pos 9, .pos 10, .pos 11, .pos 12, .pos 13, .pos 14, .one, .one, .zero, .zero, .one, .one] (.zero))), objs := [], n := 10 })
  (.ok { v := (.int .u32 (.bv [.one, .one, .one, .one, .zero, .one, .zero, .pos 0, .pos 1, .pos 2, .pos 3, .pos 4, .zero, .one, .zero, .pos 5, .pos 6, .pos 7, .pos 8, .pos 9, .pos 10, .pos 11, .pos 12, .pos 13, .pos 14, .zero, .one, .zero, .zero, .one, .one] (.zero))), objs := [], n := 10 }))
 (.br (.cube 281474976710656 281474976710656)
  (.ok { v := (.int .u32 (.bv [.one, .one, .one, .one, .zero, .one, .zero, .pos 0, .pos 1, .pos 2, .pos 3, .pos 4, .zero, .one, .zero, .pos 5, .pos 6, .pos 7, .pos 8, .pos 9, .pos 10, .pos 11, .pos 12, .pos 13, .pos 14, .one, .zero, .zero, .zero, .one, .one] (.zero))), objs := [], n := 10 })
  (.ok { v := (.int .u32 (.bv [.one, .one, .one, .one, .zero, .one, .zero, .pos 0, .pos 1, .pos 2, .pos 3, .pos 4, .zero, .one, .zero, .pos 5, .pos 6, .pos 7, .pos 8, .pos 9, .pos 10, .pos 11, .pos 12, .pos 13, .pos 14, .zero, .zero, .zero, .zero, .one, .one] (.zero))), objs := [], n := 10 })))
theorem sum49_52 : leafOf LStart 7 ((ev cx48 4000).call 49 sum49_a52 (stG LStart 7)) = sum49_r52 := by kernel_rfl
def sum49_a53 : List V := [instX (.lit (Int.ofNat 54)) (wordX 0 5) (wordX 5 5) (wordX 10 5)]
def sum49_r53 : R Leaf := (.br (.cube 140737488355328 140737488355328)
 (.br (.cube 281474976710656 281474976710656)
  (.ok { v := (.int .u32 (.bv [.one, .one, .one, .one, .zero, .one, .zero, .pos 0, .pos 1, .pos 2, .pos 3, .pos 4, .zero, .one, .zero, .pos 5, .pos 6, .pos 7, .pos 8, .pos 9, .pos 10, .pos 11, .pos 12, .pos 13, .pos 14, .one, .one, .zero, .zero, .zero, .one] (.zero))), objs := [], n := 10 })
  (.ok { v := (.int .u32 (.bv [.one, .one, .one, .one, .zero, .one, .zero, .pos 0, .pos 1, .pos 2, .pos 3, .pos 4, .zero, .one, .zero, .pos 5, .pos 6, .pos 7, .pos 8, .pos 9, .pos 10, .pos 11, .pos 12, .pos 13, .pos 14, .zero, .one, .zero, .zero, .zero, .one] (.zero))), objs := [], n := 10 }))
 (.br (.cube 281474976710656 281474976710656)
  (.ok { v := (.int .u32 (.bv [.one, .one, .one, .one, .zero, .one, .zero, .pos 0, .pos 1, .pos 2, .pos 3, .pos 4, .zero, .one, .zero, .pos 5, .pos 6, .pos 7, .pos 8, .pos 9, .pos 10, .pos 11, .pos 12, .pos 13, .pos 14, .one, .zero, .zero, .zero, .zero, .one] (.zero))), objs := [], n := 10 })
  (.ok { v := (.int .u32 (.bv [.one, .one, .one, .one, .zero, .one, .zero, .pos 0, .pos 1, .pos 2, .pos 3, .pos 4, .zero, .one, .zero, .pos 5, .pos 6, .pos 7, .pos 8, .pos 9, .pos 10, .pos 11, .pos 12, .pos 13, .pos 14, .zero, .zero, .zero, .zero, .zero, .one] (.zero))), objs := [], n := 10 })))
theorem sum49_53 : leafOf LStart 7 ((ev cx48 4000).call 49 sum49_a53 (stG LStart 7)) = sum49_r53 := by kernel_rfl
def sum49_a54 : List V := [instX (.lit (Int.ofNat 55)) (wordX 0 5) (wordX 5 5) (wordX 10 5)]
def sum49_r54 : R Leaf := (.br (.cube 140737488355328 140737488355328)
 (.br (.cube 281474976710656 281474976710656)
  (.ok { v := (.int .u32 (.bv [.one, .one, .one, .one, .zero, .one, .zero, .pos 0, .pos 1, .pos 2, .pos 3, .pos 4, .zero, .one, .zero, .pos 5, .pos 6, .pos 7, .pos 8, .pos 9, .pos 10, .pos 11, .pos 12, .pos 13, .pos 14, .one, .one, .zero, .zero, .zero, .zero, .one] (.zero))), objs := [], n := 10 })
  (.ok { v := (.int .u32 (.bv [.one, .one, .one, .one, .zero, .one, .zero, .pos 0, .pos 1, .pos 2, .pos 3, .pos 4, .zero, .one, .zero, .pos 5, .pos 6, .pos 7, .pos 8, .pos 9, .pos 10, .pos 11, .pos 12, .pos 13, .pos 14, .zero, .one, .zero, .zero, .zero, .zero, .one] (.zero))), objs := [], n := 10 }))
 (.br (.cube 281474976710656 281474976710656)
  (.ok { v := (.int .u32 (.bv [.one, .one, .one, .one, .zero, .one, .zero, .pos 0, .pos 1, .pos 2, .pos 3, .pos 4, .zero, .one, .zero, .pos 5, .pos 6, .pos 7, .pos 8, .pos 9, .pos 10, .pos 11, .pos 12, .pos 13, .pos 14, .one, .zero, .zero, .zero, .zero, .zero, .one] (.zero))), objs := [], n := 10 })
  (.ok { v := (.int .u32 (.bv [.one, .one, .one, .one, .zero, .one, .zero, .pos 0, .pos 1, .pos 2, .pos 3, .pos 4, .zero, .one, .zero, .pos 5, .pos 6, .pos 7, .pos 8, .pos 9, .pos 10, .pos 11, .pos 12, .pos 13, .pos 14, .zero, .zero, .zero, .zero, .zero, .zero, .one] (.zero))), objs := [], n := 10 })))
theorem sum49_54 : leafOf LStart 7 ((ev cx48 4000).call 49 sum49_a54 (stG LStart 7)) = sum49_r54 := by kernel_rfl
def sum49_a55 : List V := [instX (.lit (Int.ofNat 56)) (wordX 0 5) (wordX 5 5) (wordX 10 5)]
def sum49_r55 : R Leaf := (.br (.cube 140737488355328 140737488355328)
 (.br (.cube 281474976710656 281474976710656)
  (.ok { v := (.int .u32 (.bv [.one, .one, .one, .one, .zero, .one, .zero, .pos 0, .pos 1, .pos 2, .pos 3, .pos 4, .zero, .one, .zero, .pos 5, .pos 6, .pos 7, .pos 8, .pos 9, .pos 10, .pos 11, .pos 12, .pos 13, .pos 14, .one, .one, .zero, .zero, .one, .zero, .one] (.zero))), objs := [], n := 10 })
  (.ok { v := (.int .u32 (.bv [.one, .one, .one, .one, .zero, .one, .zero, .pos 0, .pos 1, .pos 2, .pos 3, .pos 4, .zero, .one, .zero, .pos 5, .pos 6, .pos 7, .pos 8, .pos 9, .pos 10, .pos 11, .pos 12, .pos 13, .pos 14, .zero, .one, .zero, .zero, .one, .zero, .one] (.zero))), objs := [], n := 10 }))
 (.br (.cube 281474976710656 281474976710656)
  (.ok { v := (.int .u32 (.bv [.one, .one, .one, .one, .zero, .one, .zero, .pos 0, .pos 1, .pos 2, .pos 3, .pos 4, .zero, .one, .zero, .pos 5, .pos 6, .pos 7, .pos 8, .pos 9, .pos 10, .pos 11, .pos 12, .pos 13, .pos 14, .one, .zero, .zero, .zero, .one, .zero, .one] (.zero))), objs := [], n := 10 })
  (.ok { v := (.int .u32 (.bv [.one, .one, .one, .one, .zero, .one, .zero, .pos 0, .pos 1, .pos 2, .pos 3, .pos 4, .zero, .one, .zero, .pos 5, .pos 6, .pos 7, .pos 8, .pos 9, .pos 10, .pos 11, .pos 12, .pos 13, .pos 14, .zero, .zero, .zero, .zero, .one, .zero, .one] (.zero))), objs := [], n := 10 })))
theorem sum49_55 : leafOf LStart 7 ((ev cx48 4000).call 49 sum49_a55 (stG LStart 7)) = sum49_r55 := by kernel_rfl
def sum49_a56 : List V := [instX (.lit (Int.ofNat 57)) (wordX 0 5) (wordX 5 5) (wordX 10 5)]
def sum49_r56 : R Leaf := (.br (.cube 140737488355328 140737488355328)
 (.br (.cube 281474976710656 281474976710656)
  (.ok { v := (.int .u32 (.bv [.one, .one, .one, .one, .zero, .one, .zero, .pos 0, .pos 1, .pos 2, .pos 3, .pos 4, .zero, .one, .zero, .pos 5, .pos 6, .pos 7, .pos 8, .pos 9, .pos 10, .pos 11, .pos 12, .pos 13, .pos 14, .one, .one, .zero, .zero, .zero, .one, .one] (.zero))), objs := [], n := 10 })
  (.ok { v := (.int .u32 (.bv [.one, .one, .one, .one, .zero, .one, .zero, .pos 0, .pos 1, .pos 2, .pos 3, .pos 4, .zero, .one, .zero, .pos 5, .pos 6, .pos 7, .pos 8, .pos 9, .pos 10, .pos 11, .pos 12, .pos 13, .pos 14, .zero, .one, .zero, .zero, .zero, .one, .one] (.zero))), objs := [], n := 10 }))
 (.br (.cube 281474976710656 281474976710656)
  (.ok { v := (.int .u32 (.bv [.one, .one, .one, .one, .zero, .one, .zero, .pos 0, .pos 1, .pos 2, .pos 3, .pos 4, .zero, .one, .zero, .pos 5, .pos 6, .pos 7, .pos 8, .pos 9, .pos 10, .pos 11, .pos 12, .pos 13, .pos 14, .one, .zero, .zero, .zero, .zero, .one, .one] (.zero))), objs := [], n := 10 })
  (.ok { v := (.int .u32 (.bv [.one, .one, .one, .one, .zero, .one, .zero, .pos 0, .pos 1, .pos 2, .pos 3, .pos 4, .zero, .one, .zero, .pos 5, .pos 6, .pos 7, .pos 8, .pos 9, .pos 10, .pos 11, .pos 12, .pos 13, .pos 14, .zero, .zero, .zero, .zero, .zero, .one, .one] (.zero))), objs := [], n := 10 })))
theorem sum49_56 : leafOf LStart 7 ((ev cx48 4000).call 49 sum49_a56 (stG LStart 7)) = sum49_r56 := by kernel_rfl
def sum49_a57 : List V := [instX (.lit (Int.ofNat 58)) (wordX 0 5) (wordX 5 5) (wordX 10 5)]
def sum49_r57 : R Leaf := (.br (.cube 140737488355328 140737488355328)
 (.br (.cube 281474976710656 281474976710656)
  (.ok { v := (.int .u32 (.bv [.one, .one, .one, .one, .zero, .one, .zero, .pos 0, .pos 1, .pos 2, .pos 3, .pos 4, .zero, .one, .zero, .pos 5, .pos 6, .pos 7, .pos 8, .pos 9, .pos 10, .pos 11, .pos 12, .pos 13, .pos 14, .one, .one, .zero, .zero, .one, .one, .one] (.zero))), objs := [], n := 10 })
  (.ok { v := (.int .u32 (.bv [.one, .one, .one, .one, .zero, .one, .zero, .pos 0, .pos 1, .pos 2, .pos 3, .pos 4, .zero, .one, .zero, .pos 5, .pos 6, .pos 7, .pos 8, .pos 9, .pos 10, .pos 11, .pos 12, .pos 13, .pos 14, .zero, .one, .zero, .zero, .one, .one, .one] (.zero))), objs := [], n := 10 }))
 (.br (.cube 281474976710656 281474976710656)
  (.ok { v := (.int .u32 (.bv [.one, .one, .one, .one, .zero, .one, .zero, .pos 0, .pos 1, .pos 2, .pos 3, .pos 4, .zero, .one, .zero, .pos 5, .pos 6, .pos 7, .pos 8, .pos 9, .pos 10, .pos 11, .pos 12, .pos 13, .pos 14, .one, .zero, .zero, .zero, .one, .one, .one] (.zero))), objs := [], n := 10 })
  (.ok { v := (.int .u32 (.bv [.one, .one, .one, .one, .zero, .one, .zero, .pos 0, .pos 1, .pos 2, .pos 3, .pos 4, .zero, .one, .zero, .pos 5, .pos 6, .pos 7, .pos 8, .pos 9, .pos 10, .pos 11, .pos 12, .pos 13, .pos 14, .zero, .zero, .zero, .zero, .one, .one, .one] (.zero))), objs := [], n := 10 })))
theorem sum49_57 : leafOf LStart 7 ((ev cx48 4000).call 49 sum49_a57 (stG LStart 7)) = sum49_r57 := by kernel_rfl
def sum49_a58 : List V := [instX (.lit (Int.ofNat 59)) (wordX 0 5) (wordX 5 5) (wordX 10 5)]
def sum49_r58 : R Leaf := (.ok { v := (.int .u32 (.add (.bv [.one, .one, .zero, .zero, .one, .one, .one, .pos 0, .pos 1, .pos 2, .pos 3, .pos 4, .zero, .one, .zero, .pos 5, .pos 6, .pos 7, .pos 8, .pos 9, .pos 10, .pos 11, .pos 12, .pos 13, .pos 14] (.zero)) (.lit (4047503360)))), objs := [], n := 9 })
theorem sum49_58 : leafOf LStart 7 ((ev cx48 4000).call 49 sum49_a58 (stG LStart 7)) = sum49_r58 := by kernel_rfl
def sum49 : List (List V × R Leaf) := [(sum49_a0, sum49_r0), (sum49_a1, sum49_r1), (sum49_a2, sum49_r2), (sum49_a3, sum49_r3), (sum49_a4, sum49_r4), (sum49_a5, sum49_r5), (sum49_a6, sum49_r6), (sum49_a7, sum49_r7), (sum49_a8, sum49_r8), (sum49_a9, sum49_r9), (sum49_a10, sum49_r10), (sum49_a11, sum49_r11), (sum49_a12, sum49_r12), (sum49_a13, sum49_r13), (sum49_a14, sum49_r14), (sum49_a15, sum49_r15), (sum49_a16, sum49_r16), (sum49_a17, sum49_r17), (sum49_a18, sum49_r18), (sum49_a19, sum49_r19), (sum49_a20, sum49_r20), (sum49_a21, sum49_r21), (sum49_a22, sum49_r22), (sum49_a23, sum49_r23), (sum49_a24, sum49_r24), (sum49_a25, sum49_r25), (sum49_a26, sum49_r26), (sum49_a27, sum49_r27), (sum49_a28, sum49_r28), (sum49_a29, sum49_r29), (sum49_a30, sum49_r30), (sum49_a31, sum49_r31), (sum49_a32, sum49_r32), (sum49_a33, sum49_r33), (sum49_a34, sum49_r34), (sum49_a35, sum49_r35), (sum49_a36, sum49_r36), (sum49_a37, sum49_r37), (sum49_a38, sum49_r38), (sum49_a39, sum49_r39), (sum49_a40, sum49_r40), (sum49_a41, sum49_r41), (sum49_a42, sum49_r42), (sum49_a43, sum49_r43), (sum49_a44, sum49_r44), (sum49_a45, sum49_r45), (sum49_a46, sum49_r46), (sum49_a47, sum49_r47), (sum49_a48, sum49_r48), (sum49_a49, sum49_r49), (sum49_a50, sum49_r50), (sum49_a51, sum49_r51), (sum49_a52, sum49_r52), (sum49_a53, sum49_r53), (sum49_a54, sum49_r54), (sum49_a55, sum49_r55), (sum49_a56, sum49_r56), (sum49_a57, sum49_r57), (sum49_a58, sum49_r58)]
theorem sum49_ok : TabOk cx48 LStart 7 4000 49 sum49 := .cons rfl sum49_0 <| .cons rfl sum49_1 <| .cons rfl sum49_2 <| .cons rfl sum49_3 <| .cons rfl sum49_4 <| .cons rfl sum49_5 <| .cons rfl sum49_6 <| .cons rfl sum49_7 <| .cons rfl sum49_8 <| .cons rfl sum49_9 <| .cons rfl sum49_10 <| .cons rfl sum49_11 <| .cons rfl sum49_12 <| .cons rfl sum49_13 <| .cons rfl sum49_14 <| .cons rfl sum49_15 <| .cons rfl sum49_16 <| .cons rfl sum49_17 <| .cons rfl sum49_18 <| .cons rfl sum49_19 <| .cons rfl sum49_20 <| .cons rfl sum49_21 <| .cons rfl sum49_22 <| .cons rfl sum49_23 <| .cons rfl sum49_24 <| .cons rfl sum49_25 <| .cons rfl sum49_26 <| .cons rfl sum49_27 <| .cons rfl sum49_28 <| .cons rfl sum49_29 <| .cons rfl sum49_30 <| .cons rfl sum49_31 <| .cons rfl sum49_32 <| .cons rfl sum49_33 <| .cons rfl sum49_34 <| .cons rfl sum49_35 <| .cons rfl sum49_36 <| .cons rfl sum49_37 <| .cons rfl sum49_38 <| .cons rfl sum49_39 <| .cons rfl sum49_40 <| .cons rfl sum49_41 <| .cons rfl sum49_42 <| .cons rfl sum49_43 <| .cons rfl sum49_44 <| .cons rfl sum49_45 <| .cons rfl sum49_46 <| .cons rfl sum49_47 <| .cons rfl sum49_48 <| .cons rfl sum49_49 <| .cons rfl sum49_50 <| .cons rfl sum49_51 <| .cons rfl sum49_52 <| .cons rfl sum49_53 <| .cons rfl sum49_54 <| .cons rfl sum49_55 <| .cons rfl sum49_56 <| .cons rfl sum49_57 <| .cons rfl sum49_58 <| .nil
noncomputable def cx49 : Cx := { cx with dm := dmH, sm := smOf [(49, sumPar LStart 7 sum49), (48, sumPar LStart 7 sum48), (40, sumPar LStart 7 sum40), (45, sumPar LStart 7 sum45), (67, sumTab LStart 7 sum67), (66, sumTab LStart 7 sum66), (65, sumTab LStart 7 sum65), (44, sumTab LStart 7 sum44), (47, sumTab LStart 7 sum47), (13, sumTab LStart 7 sum13), (101, sumTab LStart 7 sum101), (104, sumTab LStart 7 sum104)] }
end Go.Proofs.YtcachlbljjpjdaaGreatDoor
