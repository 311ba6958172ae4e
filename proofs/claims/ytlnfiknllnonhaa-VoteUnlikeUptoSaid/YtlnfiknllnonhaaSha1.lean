/- The hash SHA-256: the walks of the program's text and of the document's. -/
import Derived.Test.YtlnfiknllnonhaaSha0
namespace Go.Proofs.Ytlnfiknllnonhaa.Sha
open Go Go.RowKit Go.Proofs.YtlnfiknllnonhaaW.PrintWords Go.Proofs.YtlnfiknllnonhaaW.PrintLast Go.Proofs.YtlnfiknllnonhaaW.PrintMore
set_option linter.unusedVariables false
set_option linter.unusedSimpArgs false
theorem ror_l (x n : Nat) (hx : x < 4294967296) (p q : Nat) (hp : 2 ^ (32 - n) = p) (hq : 2 ^ n = q) : bits .or .u32 ((x : Int) * (p : Int) % 4294967296) ((x : Int) / (q : Int)) = ((rorN x n : Nat) : Int) := by
 subst hp; subst hq
 have a : ((x : Int) * ((2 ^ (32 - n) : Nat) : Int) % 4294967296) = ((x * 2 ^ (32 - n) % 4294967296 : Nat) : Int) := by rw [Int.natCast_emod, Int.natCast_mul]; rfl
 have b : ((x : Int) / ((2 ^ n : Nat) : Int)) = ((x / 2 ^ n : Nat) : Int) := by rw [Int.natCast_ediv]
 rw [a, b, or32 _ _ (Nat.mod_lt _ (by decide)) (Nat.lt_of_le_of_lt (Nat.div_le_self _ _) hx), Nat.or_comm]
 rfl
theorem ror_r (x n : Nat) (hx : x < 4294967296) (p q : Nat) (hp : 2 ^ (32 - n) = p) (hq : 2 ^ n = q) : bits .or .u32 ((x : Int) / (q : Int)) ((x : Int) * (p : Int) % 4294967296) = ((rorN x n : Nat) : Int) := by
 subst hp; subst hq
 have a : ((x : Int) * ((2 ^ (32 - n) : Nat) : Int) % 4294967296) = ((x * 2 ^ (32 - n) % 4294967296 : Nat) : Int) := by rw [Int.natCast_emod, Int.natCast_mul]; rfl
 have b : ((x : Int) / ((2 ^ n : Nat) : Int)) = ((x / 2 ^ n : Nat) : Int) := by rw [Int.natCast_ediv]
 rw [a, b, or32 _ _ (Nat.lt_of_le_of_lt (Nat.div_le_self _ _) hx) (Nat.mod_lt _ (by decide))]
 rfl
theorem ret32 {a b : Int} (h : a = b) : Ending.returned (.int .u32 a) = Ending.returned (.int .u32 b) := by rw [h]
set_option maxHeartbeats 400000 in
theorem rot_2 (x : Nat) (w : World) (hx : x < 4294967296) : Calls Try.prog 88 #[.int .u32 (x : Int), .int .i64 (-2)] w fun e w' => e = .returned (.int .u32 ((rorN x 2 : Nat) : Int)) ∧ w = w' := by
 have e1 : bits .and .u64 (IntKind.u64.wrap (-2)) 31 = 30 := by decide +kernel
 go_enter Try.func88, Try.ntmps88
 go_wp2
 go_ret
 exact ⟨ret32 (ror_l x 2 hx 1073741824 4 rfl rfl), rfl⟩
set_option maxHeartbeats 400000 in
theorem ror_2 (x : Nat) (w : World) (hx : x < 4294967296) : Calls Try.prog 86 #[.int .u32 (x : Int), .int .i64 2] w fun e w' => e = .returned (.int .u32 ((rorN x 2 : Nat) : Int)) ∧ w = w' := by
 go_enter Try.func86, Try.ntmps86
 go_wp2_with (first | (go_at_call 88; refine (rot_2 x _ hx).mono ?_; rintro e w' ⟨rfl, rfl⟩))
 go_ret
 exact ⟨rfl, rfl⟩
set_option maxHeartbeats 400000 in
theorem turn_2 (x : Nat) (w : World) (hx : x < 4294967296) : Calls Try.prog 78 #[.int .u32 (x : Int), .int .i64 2] w fun e w' => e = .returned (.int .u32 ((rorN x 2 : Nat) : Int)) ∧ w = w' := by
 go_enter Try.func78, Try.ntmps78
 go_wp2
 go_ret
 exact ⟨ret32 (ror_r x 2 hx 1073741824 4 rfl rfl), rfl⟩
set_option maxHeartbeats 400000 in
theorem rot_6 (x : Nat) (w : World) (hx : x < 4294967296) : Calls Try.prog 88 #[.int .u32 (x : Int), .int .i64 (-6)] w fun e w' => e = .returned (.int .u32 ((rorN x 6 : Nat) : Int)) ∧ w = w' := by
 have e1 : bits .and .u64 (IntKind.u64.wrap (-6)) 31 = 26 := by decide +kernel
 go_enter Try.func88, Try.ntmps88
 go_wp2
 go_ret
 exact ⟨ret32 (ror_l x 6 hx 67108864 64 rfl rfl), rfl⟩
set_option maxHeartbeats 400000 in
theorem ror_6 (x : Nat) (w : World) (hx : x < 4294967296) : Calls Try.prog 86 #[.int .u32 (x : Int), .int .i64 6] w fun e w' => e = .returned (.int .u32 ((rorN x 6 : Nat) : Int)) ∧ w = w' := by
 go_enter Try.func86, Try.ntmps86
 go_wp2_with (first | (go_at_call 88; refine (rot_6 x _ hx).mono ?_; rintro e w' ⟨rfl, rfl⟩))
 go_ret
 exact ⟨rfl, rfl⟩
set_option maxHeartbeats 400000 in
theorem turn_6 (x : Nat) (w : World) (hx : x < 4294967296) : Calls Try.prog 78 #[.int .u32 (x : Int), .int .i64 6] w fun e w' => e = .returned (.int .u32 ((rorN x 6 : Nat) : Int)) ∧ w = w' := by
 go_enter Try.func78, Try.ntmps78
 go_wp2
 go_ret
 exact ⟨ret32 (ror_r x 6 hx 67108864 64 rfl rfl), rfl⟩
set_option maxHeartbeats 400000 in
theorem rot_7 (x : Nat) (w : World) (hx : x < 4294967296) : Calls Try.prog 88 #[.int .u32 (x : Int), .int .i64 (-7)] w fun e w' => e = .returned (.int .u32 ((rorN x 7 : Nat) : Int)) ∧ w = w' := by
 have e1 : bits .and .u64 (IntKind.u64.wrap (-7)) 31 = 25 := by decide +kernel
 go_enter Try.func88, Try.ntmps88
 go_wp2
 go_ret
 exact ⟨ret32 (ror_l x 7 hx 33554432 128 rfl rfl), rfl⟩
set_option maxHeartbeats 400000 in
theorem ror_7 (x : Nat) (w : World) (hx : x < 4294967296) : Calls Try.prog 86 #[.int .u32 (x : Int), .int .i64 7] w fun e w' => e = .returned (.int .u32 ((rorN x 7 : Nat) : Int)) ∧ w = w' := by
 go_enter Try.func86, Try.ntmps86
 go_wp2_with (first | (go_at_call 88; refine (rot_7 x _ hx).mono ?_; rintro e w' ⟨rfl, rfl⟩))
 go_ret
 exact ⟨rfl, rfl⟩
set_option maxHeartbeats 400000 in
theorem turn_7 (x : Nat) (w : World) (hx : x < 4294967296) : Calls Try.prog 78 #[.int .u32 (x : Int), .int .i64 7] w fun e w' => e = .returned (.int .u32 ((rorN x 7 : Nat) : Int)) ∧ w = w' := by
 go_enter Try.func78, Try.ntmps78
 go_wp2
 go_ret
 exact ⟨ret32 (ror_r x 7 hx 33554432 128 rfl rfl), rfl⟩
set_option maxHeartbeats 400000 in
theorem rot_11 (x : Nat) (w : World) (hx : x < 4294967296) : Calls Try.prog 88 #[.int .u32 (x : Int), .int .i64 (-11)] w fun e w' => e = .returned (.int .u32 ((rorN x 11 : Nat) : Int)) ∧ w = w' := by
 have e1 : bits .and .u64 (IntKind.u64.wrap (-11)) 31 = 21 := by decide +kernel
 go_enter Try.func88, Try.ntmps88
 go_wp2
 go_ret
 exact ⟨ret32 (ror_l x 11 hx 2097152 2048 rfl rfl), rfl⟩
set_option maxHeartbeats 400000 in
theorem ror_11 (x : Nat) (w : World) (hx : x < 4294967296) : Calls Try.prog 86 #[.int .u32 (x : Int), .int .i64 11] w fun e w' => e = .returned (.int .u32 ((rorN x 11 : Nat) : Int)) ∧ w = w' := by
 go_enter Try.func86, Try.ntmps86
 go_wp2_with (first | (go_at_call 88; refine (rot_11 x _ hx).mono ?_; rintro e w' ⟨rfl, rfl⟩))
 go_ret
 exact ⟨rfl, rfl⟩
set_option maxHeartbeats 400000 in
theorem turn_11 (x : Nat) (w : World) (hx : x < 4294967296) : Calls Try.prog 78 #[.int .u32 (x : Int), .int .i64 11] w fun e w' => e = .returned (.int .u32 ((rorN x 11 : Nat) : Int)) ∧ w = w' := by
 go_enter Try.func78, Try.ntmps78
 go_wp2
 go_ret
 exact ⟨ret32 (ror_r x 11 hx 2097152 2048 rfl rfl), rfl⟩
set_option maxHeartbeats 400000 in
theorem rot_13 (x : Nat) (w : World) (hx : x < 4294967296) : Calls Try.prog 88 #[.int .u32 (x : Int), .int .i64 (-13)] w fun e w' => e = .returned (.int .u32 ((rorN x 13 : Nat) : Int)) ∧ w = w' := by
 have e1 : bits .and .u64 (IntKind.u64.wrap (-13)) 31 = 19 := by decide +kernel
 go_enter Try.func88, Try.ntmps88
 go_wp2
 go_ret
 exact ⟨ret32 (ror_l x 13 hx 524288 8192 rfl rfl), rfl⟩
set_option maxHeartbeats 400000 in
theorem ror_13 (x : Nat) (w : World) (hx : x < 4294967296) : Calls Try.prog 86 #[.int .u32 (x : Int), .int .i64 13] w fun e w' => e = .returned (.int .u32 ((rorN x 13 : Nat) : Int)) ∧ w = w' := by
 go_enter Try.func86, Try.ntmps86
 go_wp2_with (first | (go_at_call 88; refine (rot_13 x _ hx).mono ?_; rintro e w' ⟨rfl, rfl⟩))
 go_ret
 exact ⟨rfl, rfl⟩
set_option maxHeartbeats 400000 in
theorem turn_13 (x : Nat) (w : World) (hx : x < 4294967296) : Calls Try.prog 78 #[.int .u32 (x : Int), .int .i64 13] w fun e w' => e = .returned (.int .u32 ((rorN x 13 : Nat) : Int)) ∧ w = w' := by
 go_enter Try.func78, Try.ntmps78
 go_wp2
 go_ret
 exact ⟨ret32 (ror_r x 13 hx 524288 8192 rfl rfl), rfl⟩
set_option maxHeartbeats 400000 in
theorem rot_17 (x : Nat) (w : World) (hx : x < 4294967296) : Calls Try.prog 88 #[.int .u32 (x : Int), .int .i64 (-17)] w fun e w' => e = .returned (.int .u32 ((rorN x 17 : Nat) : Int)) ∧ w = w' := by
 have e1 : bits .and .u64 (IntKind.u64.wrap (-17)) 31 = 15 := by decide +kernel
 go_enter Try.func88, Try.ntmps88
 go_wp2
 go_ret
 exact ⟨ret32 (ror_l x 17 hx 32768 131072 rfl rfl), rfl⟩
set_option maxHeartbeats 400000 in
theorem ror_17 (x : Nat) (w : World) (hx : x < 4294967296) : Calls Try.prog 86 #[.int .u32 (x : Int), .int .i64 17] w fun e w' => e = .returned (.int .u32 ((rorN x 17 : Nat) : Int)) ∧ w = w' := by
 go_enter Try.func86, Try.ntmps86
 go_wp2_with (first | (go_at_call 88; refine (rot_17 x _ hx).mono ?_; rintro e w' ⟨rfl, rfl⟩))
 go_ret
 exact ⟨rfl, rfl⟩
set_option maxHeartbeats 400000 in
theorem turn_17 (x : Nat) (w : World) (hx : x < 4294967296) : Calls Try.prog 78 #[.int .u32 (x : Int), .int .i64 17] w fun e w' => e = .returned (.int .u32 ((rorN x 17 : Nat) : Int)) ∧ w = w' := by
 go_enter Try.func78, Try.ntmps78
 go_wp2
 go_ret
 exact ⟨ret32 (ror_r x 17 hx 32768 131072 rfl rfl), rfl⟩
set_option maxHeartbeats 400000 in
theorem rot_18 (x : Nat) (w : World) (hx : x < 4294967296) : Calls Try.prog 88 #[.int .u32 (x : Int), .int .i64 (-18)] w fun e w' => e = .returned (.int .u32 ((rorN x 18 : Nat) : Int)) ∧ w = w' := by
 have e1 : bits .and .u64 (IntKind.u64.wrap (-18)) 31 = 14 := by decide +kernel
 go_enter Try.func88, Try.ntmps88
 go_wp2
 go_ret
 exact ⟨ret32 (ror_l x 18 hx 16384 262144 rfl rfl), rfl⟩
set_option maxHeartbeats 400000 in
theorem ror_18 (x : Nat) (w : World) (hx : x < 4294967296) : Calls Try.prog 86 #[.int .u32 (x : Int), .int .i64 18] w fun e w' => e = .returned (.int .u32 ((rorN x 18 : Nat) : Int)) ∧ w = w' := by
 go_enter Try.func86, Try.ntmps86
 go_wp2_with (first | (go_at_call 88; refine (rot_18 x _ hx).mono ?_; rintro e w' ⟨rfl, rfl⟩))
 go_ret
 exact ⟨rfl, rfl⟩
set_option maxHeartbeats 400000 in
theorem turn_18 (x : Nat) (w : World) (hx : x < 4294967296) : Calls Try.prog 78 #[.int .u32 (x : Int), .int .i64 18] w fun e w' => e = .returned (.int .u32 ((rorN x 18 : Nat) : Int)) ∧ w = w' := by
 go_enter Try.func78, Try.ntmps78
 go_wp2
 go_ret
 exact ⟨ret32 (ror_r x 18 hx 16384 262144 rfl rfl), rfl⟩
set_option maxHeartbeats 400000 in
theorem rot_19 (x : Nat) (w : World) (hx : x < 4294967296) : Calls Try.prog 88 #[.int .u32 (x : Int), .int .i64 (-19)] w fun e w' => e = .returned (.int .u32 ((rorN x 19 : Nat) : Int)) ∧ w = w' := by
 have e1 : bits .and .u64 (IntKind.u64.wrap (-19)) 31 = 13 := by decide +kernel
 go_enter Try.func88, Try.ntmps88
 go_wp2
 go_ret
 exact ⟨ret32 (ror_l x 19 hx 8192 524288 rfl rfl), rfl⟩
set_option maxHeartbeats 400000 in
theorem ror_19 (x : Nat) (w : World) (hx : x < 4294967296) : Calls Try.prog 86 #[.int .u32 (x : Int), .int .i64 19] w fun e w' => e = .returned (.int .u32 ((rorN x 19 : Nat) : Int)) ∧ w = w' := by
 go_enter Try.func86, Try.ntmps86
 go_wp2_with (first | (go_at_call 88; refine (rot_19 x _ hx).mono ?_; rintro e w' ⟨rfl, rfl⟩))
 go_ret
 exact ⟨rfl, rfl⟩
set_option maxHeartbeats 400000 in
theorem turn_19 (x : Nat) (w : World) (hx : x < 4294967296) : Calls Try.prog 78 #[.int .u32 (x : Int), .int .i64 19] w fun e w' => e = .returned (.int .u32 ((rorN x 19 : Nat) : Int)) ∧ w = w' := by
 go_enter Try.func78, Try.ntmps78
 go_wp2
 go_ret
 exact ⟨ret32 (ror_r x 19 hx 8192 524288 rfl rfl), rfl⟩
set_option maxHeartbeats 400000 in
theorem rot_22 (x : Nat) (w : World) (hx : x < 4294967296) : Calls Try.prog 88 #[.int .u32 (x : Int), .int .i64 (-22)] w fun e w' => e = .returned (.int .u32 ((rorN x 22 : Nat) : Int)) ∧ w = w' := by
 have e1 : bits .and .u64 (IntKind.u64.wrap (-22)) 31 = 10 := by decide +kernel
 go_enter Try.func88, Try.ntmps88
 go_wp2
 go_ret
 exact ⟨ret32 (ror_l x 22 hx 1024 4194304 rfl rfl), rfl⟩
set_option maxHeartbeats 400000 in
theorem ror_22 (x : Nat) (w : World) (hx : x < 4294967296) : Calls Try.prog 86 #[.int .u32 (x : Int), .int .i64 22] w fun e w' => e = .returned (.int .u32 ((rorN x 22 : Nat) : Int)) ∧ w = w' := by
 go_enter Try.func86, Try.ntmps86
 go_wp2_with (first | (go_at_call 88; refine (rot_22 x _ hx).mono ?_; rintro e w' ⟨rfl, rfl⟩))
 go_ret
 exact ⟨rfl, rfl⟩
set_option maxHeartbeats 400000 in
theorem turn_22 (x : Nat) (w : World) (hx : x < 4294967296) : Calls Try.prog 78 #[.int .u32 (x : Int), .int .i64 22] w fun e w' => e = .returned (.int .u32 ((rorN x 22 : Nat) : Int)) ∧ w = w' := by
 go_enter Try.func78, Try.ntmps78
 go_wp2
 go_ret
 exact ⟨ret32 (ror_r x 22 hx 1024 4194304 rfl rfl), rfl⟩
set_option maxHeartbeats 400000 in
theorem rot_25 (x : Nat) (w : World) (hx : x < 4294967296) : Calls Try.prog 88 #[.int .u32 (x : Int), .int .i64 (-25)] w fun e w' => e = .returned (.int .u32 ((rorN x 25 : Nat) : Int)) ∧ w = w' := by
 have e1 : bits .and .u64 (IntKind.u64.wrap (-25)) 31 = 7 := by decide +kernel
 go_enter Try.func88, Try.ntmps88
 go_wp2
 go_ret
 exact ⟨ret32 (ror_l x 25 hx 128 33554432 rfl rfl), rfl⟩
set_option maxHeartbeats 400000 in
theorem ror_25 (x : Nat) (w : World) (hx : x < 4294967296) : Calls Try.prog 86 #[.int .u32 (x : Int), .int .i64 25] w fun e w' => e = .returned (.int .u32 ((rorN x 25 : Nat) : Int)) ∧ w = w' := by
 go_enter Try.func86, Try.ntmps86
 go_wp2_with (first | (go_at_call 88; refine (rot_25 x _ hx).mono ?_; rintro e w' ⟨rfl, rfl⟩))
 go_ret
 exact ⟨rfl, rfl⟩
set_option maxHeartbeats 400000 in
theorem turn_25 (x : Nat) (w : World) (hx : x < 4294967296) : Calls Try.prog 78 #[.int .u32 (x : Int), .int .i64 25] w fun e w' => e = .returned (.int .u32 ((rorN x 25 : Nat) : Int)) ∧ w = w' := by
 go_enter Try.func78, Try.ntmps78
 go_wp2
 go_ret
 exact ⟨ret32 (ror_r x 25 hx 128 33554432 rfl rfl), rfl⟩
theorem ror_2s (x : Nat) (w : World) (hx : x < 4294967296) : Calls Try.prog 86 #[.int .u32 (x : Int), .int .i64 2] w fun e w' => e = .returned (.int .u32 ((rorN x 2 : Nat) : Int)) ∧ w' = w := (ror_2 x w hx).mono fun _ _ h => ⟨h.1, h.2.symm⟩
theorem turn_2s (x : Nat) (w : World) (hx : x < 4294967296) : Calls Try.prog 78 #[.int .u32 (x : Int), .int .i64 2] w fun e w' => e = .returned (.int .u32 ((rorN x 2 : Nat) : Int)) ∧ w' = w := (turn_2 x w hx).mono fun _ _ h => ⟨h.1, h.2.symm⟩
theorem ror_6s (x : Nat) (w : World) (hx : x < 4294967296) : Calls Try.prog 86 #[.int .u32 (x : Int), .int .i64 6] w fun e w' => e = .returned (.int .u32 ((rorN x 6 : Nat) : Int)) ∧ w' = w := (ror_6 x w hx).mono fun _ _ h => ⟨h.1, h.2.symm⟩
theorem turn_6s (x : Nat) (w : World) (hx : x < 4294967296) : Calls Try.prog 78 #[.int .u32 (x : Int), .int .i64 6] w fun e w' => e = .returned (.int .u32 ((rorN x 6 : Nat) : Int)) ∧ w' = w := (turn_6 x w hx).mono fun _ _ h => ⟨h.1, h.2.symm⟩
theorem ror_7s (x : Nat) (w : World) (hx : x < 4294967296) : Calls Try.prog 86 #[.int .u32 (x : Int), .int .i64 7] w fun e w' => e = .returned (.int .u32 ((rorN x 7 : Nat) : Int)) ∧ w' = w := (ror_7 x w hx).mono fun _ _ h => ⟨h.1, h.2.symm⟩
theorem turn_7s (x : Nat) (w : World) (hx : x < 4294967296) : Calls Try.prog 78 #[.int .u32 (x : Int), .int .i64 7] w fun e w' => e = .returned (.int .u32 ((rorN x 7 : Nat) : Int)) ∧ w' = w := (turn_7 x w hx).mono fun _ _ h => ⟨h.1, h.2.symm⟩
theorem ror_11s (x : Nat) (w : World) (hx : x < 4294967296) : Calls Try.prog 86 #[.int .u32 (x : Int), .int .i64 11] w fun e w' => e = .returned (.int .u32 ((rorN x 11 : Nat) : Int)) ∧ w' = w := (ror_11 x w hx).mono fun _ _ h => ⟨h.1, h.2.symm⟩
theorem turn_11s (x : Nat) (w : World) (hx : x < 4294967296) : Calls Try.prog 78 #[.int .u32 (x : Int), .int .i64 11] w fun e w' => e = .returned (.int .u32 ((rorN x 11 : Nat) : Int)) ∧ w' = w := (turn_11 x w hx).mono fun _ _ h => ⟨h.1, h.2.symm⟩
theorem ror_13s (x : Nat) (w : World) (hx : x < 4294967296) : Calls Try.prog 86 #[.int .u32 (x : Int), .int .i64 13] w fun e w' => e = .returned (.int .u32 ((rorN x 13 : Nat) : Int)) ∧ w' = w := (ror_13 x w hx).mono fun _ _ h => ⟨h.1, h.2.symm⟩
theorem turn_13s (x : Nat) (w : World) (hx : x < 4294967296) : Calls Try.prog 78 #[.int .u32 (x : Int), .int .i64 13] w fun e w' => e = .returned (.int .u32 ((rorN x 13 : Nat) : Int)) ∧ w' = w := (turn_13 x w hx).mono fun _ _ h => ⟨h.1, h.2.symm⟩
theorem ror_17s (x : Nat) (w : World) (hx : x < 4294967296) : Calls Try.prog 86 #[.int .u32 (x : Int), .int .i64 17] w fun e w' => e = .returned (.int .u32 ((rorN x 17 : Nat) : Int)) ∧ w' = w := (ror_17 x w hx).mono fun _ _ h => ⟨h.1, h.2.symm⟩
theorem turn_17s (x : Nat) (w : World) (hx : x < 4294967296) : Calls Try.prog 78 #[.int .u32 (x : Int), .int .i64 17] w fun e w' => e = .returned (.int .u32 ((rorN x 17 : Nat) : Int)) ∧ w' = w := (turn_17 x w hx).mono fun _ _ h => ⟨h.1, h.2.symm⟩
theorem ror_18s (x : Nat) (w : World) (hx : x < 4294967296) : Calls Try.prog 86 #[.int .u32 (x : Int), .int .i64 18] w fun e w' => e = .returned (.int .u32 ((rorN x 18 : Nat) : Int)) ∧ w' = w := (ror_18 x w hx).mono fun _ _ h => ⟨h.1, h.2.symm⟩
theorem turn_18s (x : Nat) (w : World) (hx : x < 4294967296) : Calls Try.prog 78 #[.int .u32 (x : Int), .int .i64 18] w fun e w' => e = .returned (.int .u32 ((rorN x 18 : Nat) : Int)) ∧ w' = w := (turn_18 x w hx).mono fun _ _ h => ⟨h.1, h.2.symm⟩
theorem ror_19s (x : Nat) (w : World) (hx : x < 4294967296) : Calls Try.prog 86 #[.int .u32 (x : Int), .int .i64 19] w fun e w' => e = .returned (.int .u32 ((rorN x 19 : Nat) : Int)) ∧ w' = w := (ror_19 x w hx).mono fun _ _ h => ⟨h.1, h.2.symm⟩
theorem turn_19s (x : Nat) (w : World) (hx : x < 4294967296) : Calls Try.prog 78 #[.int .u32 (x : Int), .int .i64 19] w fun e w' => e = .returned (.int .u32 ((rorN x 19 : Nat) : Int)) ∧ w' = w := (turn_19 x w hx).mono fun _ _ h => ⟨h.1, h.2.symm⟩
theorem ror_22s (x : Nat) (w : World) (hx : x < 4294967296) : Calls Try.prog 86 #[.int .u32 (x : Int), .int .i64 22] w fun e w' => e = .returned (.int .u32 ((rorN x 22 : Nat) : Int)) ∧ w' = w := (ror_22 x w hx).mono fun _ _ h => ⟨h.1, h.2.symm⟩
theorem turn_22s (x : Nat) (w : World) (hx : x < 4294967296) : Calls Try.prog 78 #[.int .u32 (x : Int), .int .i64 22] w fun e w' => e = .returned (.int .u32 ((rorN x 22 : Nat) : Int)) ∧ w' = w := (turn_22 x w hx).mono fun _ _ h => ⟨h.1, h.2.symm⟩
theorem ror_25s (x : Nat) (w : World) (hx : x < 4294967296) : Calls Try.prog 86 #[.int .u32 (x : Int), .int .i64 25] w fun e w' => e = .returned (.int .u32 ((rorN x 25 : Nat) : Int)) ∧ w' = w := (ror_25 x w hx).mono fun _ _ h => ⟨h.1, h.2.symm⟩
theorem turn_25s (x : Nat) (w : World) (hx : x < 4294967296) : Calls Try.prog 78 #[.int .u32 (x : Int), .int .i64 25] w fun e w' => e = .returned (.int .u32 ((rorN x 25 : Nat) : Int)) ∧ w' = w := (turn_25 x w hx).mono fun _ _ h => ⟨h.1, h.2.symm⟩
end Go.Proofs.Ytlnfiknllnonhaa.Sha
