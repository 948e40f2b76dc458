/- The table is sound; the walk of the law. No conditions. -/
import Derived.Test.YtbfglcegmhgjdaaGreatDoorInTab1
import Derived.Test.YtbfglcegmhgjdaaGreatDoorInTab2
import Derived.Test.YtbfglcegmhgjdaaGreatDoorInTab3
import Derived.Test.YtbfglcegmhgjdaaGreatDoorInTab4
import Derived.Test.YtbfglcegmhgjdaaGreatDoorInTab5
import Derived.Test.YtbfglcegmhgjdaaGreatDoorInTabL
namespace Go.Proofs.YtbfglcegmhgjdaaGreatDoor.installNames
open Go.AM
theorem o1 : TblOk Tryz.prog t1 := TblOk.cons (entry_ok (callP_sound mixed noRt o0 q0 2000 300) b1) o0
theorem o2 : TblOk Tryz.prog t2 := TblOk.cons (entry_ok (callP_sound mixed noRt o1 q0 2000 300) b2) o1
theorem o3 : TblOk Tryz.prog t3 := TblOk.cons (entry_ok (callP_sound mixed noRt o2 q0 2000 300) b3) o2
theorem o4 : TblOk Tryz.prog t4 := TblOk.cons (entry_ok (callP_sound mixed noRt o3 q0 2000 300) b4) o3
theorem o5 : TblOk Tryz.prog t5 := TblOk.cons (entry_ok (callP_sound mixed noRt o4 q0 2000 300) b5) o4
theorem o6 : TblOk Tryz.prog t6 := TblOk.cons (entry_ok (callP_sound mixed noRt o5 q0 2000 300) b6) o5
theorem o7 : TblOk Tryz.prog t7 := TblOk.cons (entry_ok (callP_sound mixed noRt o6 q0 2000 300) b7) o6
theorem o8 : TblOk Tryz.prog t8 := TblOk.cons (entry_ok (callP_sound mixed noRt o7 q0 2000 300) b8) o7
theorem o9 : TblOk Tryz.prog t9 := TblOk.cons (entry_ok (callP_sound mixed noRt o8 q0 2000 300) b9) o8
theorem o10 : TblOk Tryz.prog t10 := TblOk.cons (entry_ok (callP_sound mixed noRt o9 q0 2000 300) b10) o9
theorem o11 : TblOk Tryz.prog t11 := TblOk.cons (entry_ok (callP_sound mixed noRt o10 q0 2000 300) b11) o10
theorem o12 : TblOk Tryz.prog t12 := TblOk.cons (entry_ok (callP_sound mixed noRt o11 q0 2000 300) b12) o11
theorem o13 : TblOk Tryz.prog t13 := TblOk.cons (entry_ok (callP_sound mixed noRt o12 q0 2000 300) b13) o12
theorem o14 : TblOk Tryz.prog t14 := TblOk.cons (entry_ok (callP_sound mixed noRt o13 q0 2000 300) b14) o13
theorem o15 : TblOk Tryz.prog t15 := TblOk.cons (entry_ok (callP_sound mixed noRt o14 q0 2000 300) b15) o14
theorem o16 : TblOk Tryz.prog t16 := TblOk.cons (entry_ok (callP_sound mixed noRt o15 q0 2000 300) b16) o15
theorem q1 : TbpOk Tryz.prog m1 := TbpOk.cons (entryPR_ok (callP_sound mixed noRt o16 q0 2000 300) c1) q0
theorem o17 : TblOk Tryz.prog t17 := TblOk.cons (entry_ok (callP_sound mixed noRt o16 q1 2000 300) b17) o16
theorem o18 : TblOk Tryz.prog t18 := TblOk.cons (entry_ok (callP_sound mixed noRt o17 q1 2000 300) b18) o17
theorem o19 : TblOk Tryz.prog t19 := TblOk.cons (entry_ok (callP_sound mixed noRt o18 q1 2000 300) b19) o18
theorem o20 : TblOk Tryz.prog t20 := TblOk.cons (entry_ok (callP_sound mixed noRt o19 q1 2000 300) b20) o19
theorem o21 : TblOk Tryz.prog t21 := TblOk.cons (entry_ok (callP_sound mixed noRt o20 q1 2000 300) b21) o20
theorem o22 : TblOk Tryz.prog t22 := TblOk.cons (entry_ok (callP_sound mixed noRt o21 q1 2000 300) b22) o21
theorem q2 : TbpOk Tryz.prog m2 := TbpOk.cons (entryPR_ok (callP_sound mixed noRt o22 q1 2000 300) c2) q1
theorem q3 : TbpOk Tryz.prog m3 := TbpOk.cons (entryPR_ok (callP_sound mixed noRt o22 q2 2000 300) c3) q2
theorem o23 : TblOk Tryz.prog t23 := TblOk.cons (entry_ok (callP_sound mixed noRt o22 q3 2000 300) b23) o22
theorem o24 : TblOk Tryz.prog t24 := TblOk.cons (entry_ok (callP_sound mixed noRt o23 q3 2000 300) b24) o23
theorem q4 : TbpOk Tryz.prog m4 := TbpOk.cons (entryPR_ok (callP_sound mixed noRt o24 q3 2000 300) c4) q3
theorem o25 : TblOk Tryz.prog t25 := TblOk.cons (entry_ok (callP_sound mixed noRt o24 q4 2000 300) b25) o24
theorem o26 : TblOk Tryz.prog t26 := TblOk.cons (entry_ok (callP_sound mixed noRt o25 q4 2000 300) b26) o25
theorem o27 : TblOk Tryz.prog t27 := TblOk.cons (entry_ok (callP_sound mixed noRt o26 q4 2000 300) b27) o26
theorem o28 : TblOk Tryz.prog t28 := TblOk.cons (entry_ok (callP_sound mixed noRt o27 q4 2000 300) b28) o27
theorem o29 : TblOk Tryz.prog t29 := TblOk.cons (entry_ok (callP_sound mixed noRt o28 q4 2000 300) b29) o28
theorem q5 : TbpOk Tryz.prog m5 := TbpOk.cons (entryPR_ok (callP_sound mixed noRt o29 q4 2000 300) c5) q4
theorem o30 : TblOk Tryz.prog t30 := TblOk.cons (entry_ok (callP_sound mixed noRt o29 q5 2000 300) b30) o29
theorem o31 : TblOk Tryz.prog t31 := TblOk.cons (entry_ok (callP_sound mixed noRt o30 q5 2000 300) b31) o30
theorem o32 : TblOk Tryz.prog t32 := TblOk.cons (entry_ok (callP_sound mixed noRt o31 q5 2000 300) b32) o31
theorem q6 : TbpOk Tryz.prog m6 := TbpOk.cons (entryPR_ok (callP_sound mixed noRt o32 q5 2000 300) c6) q5
theorem o33 : TblOk Tryz.prog t33 := TblOk.cons (entry_ok (callP_sound mixed noRt o32 q6 2000 300) b33) o32
theorem o34 : TblOk Tryz.prog t34 := TblOk.cons (entry_ok (callP_sound mixed noRt o33 q6 2000 300) b34) o33
theorem q7 : TbpOk Tryz.prog m7 := TbpOk.cons (entryPR_ok (callP_sound mixed noRt o34 q6 2000 300) c7) q6
theorem o35 : TblOk Tryz.prog t35 := TblOk.cons (entry_ok (callP_sound mixed noRt o34 q7 2000 300) b35) o34
theorem walk (w : World) (hL : laidMet Tryz.prog Rows.installNamesRow.laid w) : Calls Tryz.prog 3 #[] w fun e w' => e = .returned (.bool true) ∧ Go.RowKit.Below w.heap.size w w' := by
  have h := last
  unfold good at h
  split at h
  · rename_i b H1 hc
    subst h
    exact top (callP_sound mixed noRt o35 q7 2000 300) hc w (globsOk hL) #[] rfl
  · cases h
end Go.Proofs.YtbfglcegmhgjdaaGreatDoor.installNames
