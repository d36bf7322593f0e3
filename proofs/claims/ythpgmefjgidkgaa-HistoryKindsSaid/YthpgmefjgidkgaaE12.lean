/- Which events are right: the closures' walks. -/
import Derived.Test.YthpgmefjgidkgaaS12
import Derived.Test.YthpgmefjgidkgaaWk
namespace Go.Proofs.Ythpgmefjgidkgaa
open Go.RowKit
set_option linter.unusedVariables false
set_option linter.unusedSimpArgs false

theorem named_calls (s : ByteArray) (w : World) : Calls Try.prog 25 #[.string s] w fun e w' => e = .returned (.bool (nameB s)) ∧ w = w' := by
  by_cases h1 : (1 : Int) ≤ s.size <;> by_cases h2 : (s.size : Int) ≤ 40
  all_goals
    go_enter Try.func25, Try.ntmps25
    go_wp2
    go_ret
    exact ⟨by simp [nameB, h1, h2], rfl⟩
theorem numbered_calls (n : Int) (w : World) : Calls Try.prog 27 #[.int .i64 n] w fun e w' => e = .returned (.bool (numB n)) ∧ w = w' := by
  by_cases h1 : (1 : Int) ≤ n <;> by_cases h2 : n ≤ 200
  all_goals
    go_enter Try.func27, Try.ntmps27
    go_wp2
    go_ret
    exact ⟨by simp [numB, h1, h2], rfl⟩
theorem status_calls (n : Int) (w : World) : Calls Try.prog 31 #[.int .i64 n] w fun e w' => e = .returned (.bool (statB n)) ∧ w = w' := by
  by_cases h1 : (0 : Int) ≤ n <;> by_cases h2 : n ≤ 3
  all_goals
    go_enter Try.func31, Try.ntmps31
    go_wp2
    go_ret
    exact ⟨by simp [statB, h1, h2], rfl⟩
set_option maxRecDepth 100000 in
set_option maxHeartbeats 4000000 in
theorem clo1_calls (x : Ev) (be : Nat) (w : World) (hx : ∀ i, w.cell? ⟨be, i, none⟩ = (#[.int .u8 x.k, .int .i64 x.at', .int .i64 x.n, .int .i64 x.p, .int .i64 x.a, .int .i64 x.b, .string x.s] : Array Value)[i]?) :
    Calls Try.prog 24 #[.pointer (some ⟨be, 0, none⟩)] w fun e w' => e = .returned (.bool (nameB x.s && (decide (x.n = 0) && (decide (x.p = 0) && (decide (x.b = 0)))))) ∧ w = w' := by
  by_cases h0 : nameB x.s = true
  rotate_left
  · have g0 : (nameB x.s) = false := by simpa using h0
    go_enter Try.func24, Try.ntmps24
    go_wp2_with (first | (go_at_call 25; refine (named_calls _ _).mono ?_; rintro e w' ⟨rfl, rfl⟩))
    go_ret
    exact ⟨by first | (simp [h0]; done) | (simp [h0]; intros; omega), rfl⟩
  by_cases h1 : x.n = 0
  rotate_left
  · have g1 : (x.n == 0) = false := by simpa using h1
    go_enter Try.func24, Try.ntmps24
    go_wp2_with (first | (go_at_call 25; refine (named_calls _ _).mono ?_; rintro e w' ⟨rfl, rfl⟩))
    go_ret
    exact ⟨by first | (simp [h0, h1]; done) | (simp [h0, h1]; intros; omega), rfl⟩
  have g1 : (x.n == 0) = true := by simpa using h1
  by_cases h2 : x.p = 0
  rotate_left
  · have g2 : (x.p == 0) = false := by simpa using h2
    go_enter Try.func24, Try.ntmps24
    go_wp2_with (first | (go_at_call 25; refine (named_calls _ _).mono ?_; rintro e w' ⟨rfl, rfl⟩))
    go_ret
    exact ⟨by first | (simp [h0, h1, h2]; done) | (simp [h0, h1, h2]; intros; omega), rfl⟩
  have g2 : (x.p == 0) = true := by simpa using h2
  by_cases h3 : x.b = 0
  rotate_left
  · have g3 : (x.b == 0) = false := by simpa using h3
    go_enter Try.func24, Try.ntmps24
    go_wp2_with (first | (go_at_call 25; refine (named_calls _ _).mono ?_; rintro e w' ⟨rfl, rfl⟩))
    go_ret
    exact ⟨by first | (simp [h0, h1, h2, h3]; done) | (simp [h0, h1, h2, h3]; intros; omega), rfl⟩
  have g3 : (x.b == 0) = true := by simpa using h3
  go_enter Try.func24, Try.ntmps24
  go_wp2_with (first | (go_at_call 25; refine (named_calls _ _).mono ?_; rintro e w' ⟨rfl, rfl⟩))
  go_ret
  exact ⟨by first | (simp [h0, h1, h2, h3]; done) | (simp [h0, h1, h2, h3]; intros; omega), rfl⟩
set_option maxRecDepth 100000 in
set_option maxHeartbeats 4000000 in
theorem clo3_calls (x : Ev) (be : Nat) (bp : Nat) (pl : Bool) (w : World) (hx : ∀ i, w.cell? ⟨be, i, none⟩ = (#[.int .u8 x.k, .int .i64 x.at', .int .i64 x.n, .int .i64 x.p, .int .i64 x.a, .int .i64 x.b, .string x.s] : Array Value)[i]?) (hp : w.cell? ⟨bp, 0, none⟩ = some (.bool pl)) :
    Calls Try.prog 29 #[.pointer (some ⟨be, 0, none⟩), .pointer (some ⟨bp, 0, none⟩)] w fun e w' => e = .returned (.bool (numB x.n && (decide (1 ≤ x.p) && (decide (x.p ≤ 100) && (decide (x.a = 0) && (pl)))))) ∧ w = w' := by
  by_cases h0 : numB x.n = true
  rotate_left
  · have g0 : (numB x.n) = false := by simpa using h0
    go_enter Try.func29, Try.ntmps29
    go_wp2_with (first | (go_at_call 27; refine (numbered_calls _ _).mono ?_; rintro e w' ⟨rfl, rfl⟩))
    go_ret
    exact ⟨by first | (simp [h0]; done) | (simp [h0]; intros; omega), rfl⟩
  by_cases h1 : 1 ≤ x.p
  rotate_left
  · go_enter Try.func29, Try.ntmps29
    go_wp2_with (first | (go_at_call 27; refine (numbered_calls _ _).mono ?_; rintro e w' ⟨rfl, rfl⟩))
    go_ret
    exact ⟨by first | (simp [h0, h1]; done) | (simp [h0, h1]; intros; omega), rfl⟩
  by_cases h2 : x.p ≤ 100
  rotate_left
  · go_enter Try.func29, Try.ntmps29
    go_wp2_with (first | (go_at_call 27; refine (numbered_calls _ _).mono ?_; rintro e w' ⟨rfl, rfl⟩))
    go_ret
    exact ⟨by first | (simp [h0, h1, h2]; done) | (simp [h0, h1, h2]; intros; omega), rfl⟩
  by_cases h3 : x.a = 0
  rotate_left
  · have g3 : (x.a == 0) = false := by simpa using h3
    go_enter Try.func29, Try.ntmps29
    go_wp2_with (first | (go_at_call 27; refine (numbered_calls _ _).mono ?_; rintro e w' ⟨rfl, rfl⟩))
    go_ret
    exact ⟨by first | (simp [h0, h1, h2, h3]; done) | (simp [h0, h1, h2, h3]; intros; omega), rfl⟩
  have g3 : (x.a == 0) = true := by simpa using h3
  by_cases h4 : pl = true
  rotate_left
  · have g4 : (pl) = false := by simpa using h4
    go_enter Try.func29, Try.ntmps29
    go_wp2_with (first | (go_at_call 27; refine (numbered_calls _ _).mono ?_; rintro e w' ⟨rfl, rfl⟩))
    go_ret
    exact ⟨by first | (simp [h0, h1, h2, h3, h4]; done) | (simp [h0, h1, h2, h3, h4]; intros; omega), rfl⟩
  go_enter Try.func29, Try.ntmps29
  go_wp2_with (first | (go_at_call 27; refine (numbered_calls _ _).mono ?_; rintro e w' ⟨rfl, rfl⟩))
  go_ret
  exact ⟨by first | (simp [h0, h1, h2, h3, h4]; done) | (simp [h0, h1, h2, h3, h4]; intros; omega), rfl⟩
set_option maxRecDepth 100000 in
set_option maxHeartbeats 4000000 in
theorem clo4_calls (x : Ev) (be : Nat) (bp : Nat) (pl : Bool) (w : World) (hx : ∀ i, w.cell? ⟨be, i, none⟩ = (#[.int .u8 x.k, .int .i64 x.at', .int .i64 x.n, .int .i64 x.p, .int .i64 x.a, .int .i64 x.b, .string x.s] : Array Value)[i]?) (hp : w.cell? ⟨bp, 0, none⟩ = some (.bool pl)) :
    Calls Try.prog 30 #[.pointer (some ⟨be, 0, none⟩), .pointer (some ⟨bp, 0, none⟩)] w fun e w' => e = .returned (.bool (numB x.n && (statB x.p && (pl)))) ∧ w = w' := by
  by_cases h0 : numB x.n = true
  rotate_left
  · have g0 : (numB x.n) = false := by simpa using h0
    go_enter Try.func30, Try.ntmps30
    go_wp2_with (first | (go_at_call 27; refine (numbered_calls _ _).mono ?_; rintro e w' ⟨rfl, rfl⟩) | (go_at_call 31; refine (status_calls _ _).mono ?_; rintro e w' ⟨rfl, rfl⟩))
    go_ret
    exact ⟨by first | (simp [h0]; done) | (simp [h0]; intros; omega), rfl⟩
  by_cases h1 : statB x.p = true
  rotate_left
  · have g1 : (statB x.p) = false := by simpa using h1
    go_enter Try.func30, Try.ntmps30
    go_wp2_with (first | (go_at_call 27; refine (numbered_calls _ _).mono ?_; rintro e w' ⟨rfl, rfl⟩) | (go_at_call 31; refine (status_calls _ _).mono ?_; rintro e w' ⟨rfl, rfl⟩))
    go_ret
    exact ⟨by first | (simp [h0, h1]; done) | (simp [h0, h1]; intros; omega), rfl⟩
  by_cases h2 : pl = true
  rotate_left
  · have g2 : (pl) = false := by simpa using h2
    go_enter Try.func30, Try.ntmps30
    go_wp2_with (first | (go_at_call 27; refine (numbered_calls _ _).mono ?_; rintro e w' ⟨rfl, rfl⟩) | (go_at_call 31; refine (status_calls _ _).mono ?_; rintro e w' ⟨rfl, rfl⟩))
    go_ret
    exact ⟨by first | (simp [h0, h1, h2]; done) | (simp [h0, h1, h2]; intros; omega), rfl⟩
  go_enter Try.func30, Try.ntmps30
  go_wp2_with (first | (go_at_call 27; refine (numbered_calls _ _).mono ?_; rintro e w' ⟨rfl, rfl⟩) | (go_at_call 31; refine (status_calls _ _).mono ?_; rintro e w' ⟨rfl, rfl⟩))
  go_ret
  exact ⟨by first | (simp [h0, h1, h2]; done) | (simp [h0, h1, h2]; intros; omega), rfl⟩
set_option maxRecDepth 100000 in
set_option maxHeartbeats 4000000 in
theorem clo5_calls (x : Ev) (be : Nat) (bp : Nat) (pl : Bool) (w : World) (hx : ∀ i, w.cell? ⟨be, i, none⟩ = (#[.int .u8 x.k, .int .i64 x.at', .int .i64 x.n, .int .i64 x.p, .int .i64 x.a, .int .i64 x.b, .string x.s] : Array Value)[i]?) (hp : w.cell? ⟨bp, 0, none⟩ = some (.bool pl)) :
    Calls Try.prog 32 #[.pointer (some ⟨be, 0, none⟩), .pointer (some ⟨bp, 0, none⟩)] w fun e w' => e = .returned (.bool (decide (x.n = 0) && (decide (x.p = 0) && (pl)))) ∧ w = w' := by
  by_cases h0 : x.n = 0
  rotate_left
  · have g0 : (x.n == 0) = false := by simpa using h0
    go_enter Try.func32, Try.ntmps32
    go_wp2
    go_ret
    exact ⟨by first | (simp [h0]; done) | (simp [h0]; intros; omega), rfl⟩
  have g0 : (x.n == 0) = true := by simpa using h0
  by_cases h1 : x.p = 0
  rotate_left
  · have g1 : (x.p == 0) = false := by simpa using h1
    go_enter Try.func32, Try.ntmps32
    go_wp2
    go_ret
    exact ⟨by first | (simp [h0, h1]; done) | (simp [h0, h1]; intros; omega), rfl⟩
  have g1 : (x.p == 0) = true := by simpa using h1
  by_cases h2 : pl = true
  rotate_left
  · have g2 : (pl) = false := by simpa using h2
    go_enter Try.func32, Try.ntmps32
    go_wp2
    go_ret
    exact ⟨by first | (simp [h0, h1, h2]; done) | (simp [h0, h1, h2]; intros; omega), rfl⟩
  go_enter Try.func32, Try.ntmps32
  go_wp2
  go_ret
  exact ⟨by first | (simp [h0, h1, h2]; done) | (simp [h0, h1, h2]; intros; omega), rfl⟩
set_option maxRecDepth 100000 in
set_option maxHeartbeats 4000000 in
theorem clo6_calls (x : Ev) (be : Nat) (bp : Nat) (pl : Bool) (w : World) (hx : ∀ i, w.cell? ⟨be, i, none⟩ = (#[.int .u8 x.k, .int .i64 x.at', .int .i64 x.n, .int .i64 x.p, .int .i64 x.a, .int .i64 x.b, .string x.s] : Array Value)[i]?) (hp : w.cell? ⟨bp, 0, none⟩ = some (.bool pl)) :
    Calls Try.prog 33 #[.pointer (some ⟨be, 0, none⟩), .pointer (some ⟨bp, 0, none⟩)] w fun e w' => e = .returned (.bool (decide (x.n = 0) && (decide (x.p = 0) && (decide (x.a = 0) && (pl))))) ∧ w = w' := by
  by_cases h0 : x.n = 0
  rotate_left
  · have g0 : (x.n == 0) = false := by simpa using h0
    go_enter Try.func33, Try.ntmps33
    go_wp2
    go_ret
    exact ⟨by first | (simp [h0]; done) | (simp [h0]; intros; omega), rfl⟩
  have g0 : (x.n == 0) = true := by simpa using h0
  by_cases h1 : x.p = 0
  rotate_left
  · have g1 : (x.p == 0) = false := by simpa using h1
    go_enter Try.func33, Try.ntmps33
    go_wp2
    go_ret
    exact ⟨by first | (simp [h0, h1]; done) | (simp [h0, h1]; intros; omega), rfl⟩
  have g1 : (x.p == 0) = true := by simpa using h1
  by_cases h2 : x.a = 0
  rotate_left
  · have g2 : (x.a == 0) = false := by simpa using h2
    go_enter Try.func33, Try.ntmps33
    go_wp2
    go_ret
    exact ⟨by first | (simp [h0, h1, h2]; done) | (simp [h0, h1, h2]; intros; omega), rfl⟩
  have g2 : (x.a == 0) = true := by simpa using h2
  by_cases h3 : pl = true
  rotate_left
  · have g3 : (pl) = false := by simpa using h3
    go_enter Try.func33, Try.ntmps33
    go_wp2
    go_ret
    exact ⟨by first | (simp [h0, h1, h2, h3]; done) | (simp [h0, h1, h2, h3]; intros; omega), rfl⟩
  go_enter Try.func33, Try.ntmps33
  go_wp2
  go_ret
  exact ⟨by first | (simp [h0, h1, h2, h3]; done) | (simp [h0, h1, h2, h3]; intros; omega), rfl⟩
set_option maxRecDepth 100000 in
set_option maxHeartbeats 4000000 in
theorem clo7_calls (x : Ev) (be : Nat) (bp : Nat) (pl : Bool) (w : World) (hx : ∀ i, w.cell? ⟨be, i, none⟩ = (#[.int .u8 x.k, .int .i64 x.at', .int .i64 x.n, .int .i64 x.p, .int .i64 x.a, .int .i64 x.b, .string x.s] : Array Value)[i]?) (hp : w.cell? ⟨bp, 0, none⟩ = some (.bool pl)) :
    Calls Try.prog 34 #[.pointer (some ⟨be, 0, none⟩), .pointer (some ⟨bp, 0, none⟩)] w fun e w' => e = .returned (.bool (decide (x.n = 0) && (statB x.p && (pl)))) ∧ w = w' := by
  by_cases h0 : x.n = 0
  rotate_left
  · have g0 : (x.n == 0) = false := by simpa using h0
    go_enter Try.func34, Try.ntmps34
    go_wp2_with (first | (go_at_call 31; refine (status_calls _ _).mono ?_; rintro e w' ⟨rfl, rfl⟩))
    go_ret
    exact ⟨by first | (simp [h0]; done) | (simp [h0]; intros; omega), rfl⟩
  have g0 : (x.n == 0) = true := by simpa using h0
  by_cases h1 : statB x.p = true
  rotate_left
  · have g1 : (statB x.p) = false := by simpa using h1
    go_enter Try.func34, Try.ntmps34
    go_wp2_with (first | (go_at_call 31; refine (status_calls _ _).mono ?_; rintro e w' ⟨rfl, rfl⟩))
    go_ret
    exact ⟨by first | (simp [h0, h1]; done) | (simp [h0, h1]; intros; omega), rfl⟩
  by_cases h2 : pl = true
  rotate_left
  · have g2 : (pl) = false := by simpa using h2
    go_enter Try.func34, Try.ntmps34
    go_wp2_with (first | (go_at_call 31; refine (status_calls _ _).mono ?_; rintro e w' ⟨rfl, rfl⟩))
    go_ret
    exact ⟨by first | (simp [h0, h1, h2]; done) | (simp [h0, h1, h2]; intros; omega), rfl⟩
  go_enter Try.func34, Try.ntmps34
  go_wp2_with (first | (go_at_call 31; refine (status_calls _ _).mono ?_; rintro e w' ⟨rfl, rfl⟩))
  go_ret
  exact ⟨by first | (simp [h0, h1, h2]; done) | (simp [h0, h1, h2]; intros; omega), rfl⟩
end Go.Proofs.Ythpgmefjgidkgaa
