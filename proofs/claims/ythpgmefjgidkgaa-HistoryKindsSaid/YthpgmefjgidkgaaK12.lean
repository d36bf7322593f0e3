/- What an event does to a history: a start, a stop, an end. -/
import Derived.Test.YthpgmefjgidkgaaI12
import Derived.Test.YthpgmefjgidkgaaWj
namespace Go.Proofs.Ythpgmefjgidkgaa
open Go.RowKit
set_option linter.unusedVariables false
set_option linter.unusedSimpArgs false


set_option maxRecDepth 100000 in
set_option maxHeartbeats 4000000 in
theorem put_stop (prog : ByteArray) (arg ost ov len last : Int) (cs ts ks ss : Option Addr) (cl tl kl sl cc tc kc sc : Nat) (st clo : Bool) (bx : Nat) (at' n p a b : Int) (s : ByteArray) (w : World) (h : At w bx #[.string prog, .int .i64 arg, .slice cs cl cc, .slice ts tl tc, .slice ks kl kc, .slice ss sl sc, .bool st, .bool clo, .int .i64 ost, .int .i64 ov, .int .i64 len, .int .i64 last]) (hl : 0 ≤ len) (hl2 : len ≤ 1000000) :
    Calls Try.prog 23 #[.pointer (some ⟨bx, 0, none⟩), .agg #[.int .u8 6, .int .i64 at', .int .i64 n, .int .i64 p, .int .i64 a, .int .i64 b, .string s]] w fun e w' => e = .returned (.tuple #[]) ∧ Chg (fun q => q = bx) w w' ∧ At w' bx #[.string prog, .int .i64 arg, .slice cs cl cc, .slice ts tl tc, .slice ks kl kc, .slice ss sl sc, .bool true, .bool clo, .int .i64 ost, .int .i64 ov, .int .i64 (len + 1), .int .i64 at'] := by
  have lb := at_lt h (by simp)
  go_enter Try.func23, Try.ntmps23
  go_upto_region 1 with fail
  refine wp_at ?_
  intro W1 hW
  have hx : Ext w W1 := by rw [hW]; repeat (first | exact ext_refl _ | assumption | refine ext_more' ?_ _ _ | refine ext_drew ?_ | refine ext_drewN ?_ _ | refine ext_alloc ?_ _)
  have he := at_new (by rw [hW]; repeat (first | exact ext_refl _ | assumption | refine ext_more' ?_ _ _ | refine ext_drew ?_ | refine ext_drewN ?_ _ | refine ext_alloc ?_ _) : Ext (World.alloc w (.cells _ _)) W1)
  clear hW
  have h1 := at_ext h (by simp) hx
  have hne : w.heap.size ≠ bx := by omega
  have g1 : Chg (fun q => q = bx) w W1 := Chg.ofExt hx
  have ke := he.1
  have le := at_lt he (by simp)
  have k1 := h1.1
  have f1 := h1.2
  have l1 := at_lt h1 (by simp)
  go_region
  all_goals
    refine then_at ?_
    intro W2 hW
    have h2 : At W2 bx #[.string prog, .int .i64 arg, .slice cs cl cc, .slice ts tl tc, .slice ks kl kc, .slice ss sl sc, .bool st, .bool clo, .int .i64 ost, .int .i64 ov, .int .i64 (len + 1), .int .i64 at'] := by rw [hW]; exact at_drewI (at_put (at_put h1 (by simp) rfl) (by simp) rfl)
    have he2 := show At W2 w.heap.size _ by rw [hW]; exact at_drewI (at_other (at_other he hne) hne)
    have g2 : Chg (fun q => q = bx) w W2 := by rw [hW]; exact Chg.drew (chg_put (chg_put g1))
    clear hW ke le k1 f1 l1 he h1 g1 hx
    have ke := he2.1
    have le := at_lt he2 (by simp)
    have k1 := h2.1
    have f1 := h2.2
    have l1 := at_lt h2 (by simp)
    go_wp2
    go_end0
    exact ⟨rfl, chg_put g2, at_put h2 (by simp) rfl⟩

set_option maxRecDepth 100000 in
set_option maxHeartbeats 4000000 in
theorem put_start (prog : ByteArray) (arg ost ov len last : Int) (cs ts ks ss : Option Addr) (cl tl kl sl cc tc kc sc : Nat) (st clo : Bool) (bx : Nat) (at' n p a b : Int) (s : ByteArray) (w : World) (h : At w bx #[.string prog, .int .i64 arg, .slice cs cl cc, .slice ts tl tc, .slice ks kl kc, .slice ss sl sc, .bool st, .bool clo, .int .i64 ost, .int .i64 ov, .int .i64 len, .int .i64 last]) (hl : 0 ≤ len) (hl2 : len ≤ 1000000) :
    Calls Try.prog 23 #[.pointer (some ⟨bx, 0, none⟩), .agg #[.int .u8 1, .int .i64 at', .int .i64 n, .int .i64 p, .int .i64 a, .int .i64 b, .string s]] w fun e w' => e = .returned (.tuple #[]) ∧ Chg (fun q => q = bx) w w' ∧ At w' bx #[.string s, .int .i64 a, .slice cs cl cc, .slice ts tl tc, .slice ks kl kc, .slice ss sl sc, .bool st, .bool clo, .int .i64 ost, .int .i64 ov, .int .i64 (len + 1), .int .i64 at'] := by
  have lb := at_lt h (by simp)
  go_enter Try.func23, Try.ntmps23
  go_upto_region 1 with fail
  refine wp_at ?_
  intro W1 hW
  have hx : Ext w W1 := by rw [hW]; repeat (first | exact ext_refl _ | assumption | refine ext_more' ?_ _ _ | refine ext_drew ?_ | refine ext_drewN ?_ _ | refine ext_alloc ?_ _)
  have he := at_new (by rw [hW]; repeat (first | exact ext_refl _ | assumption | refine ext_more' ?_ _ _ | refine ext_drew ?_ | refine ext_drewN ?_ _ | refine ext_alloc ?_ _) : Ext (World.alloc w (.cells _ _)) W1)
  clear hW
  have h1 := at_ext h (by simp) hx
  have hne : w.heap.size ≠ bx := by omega
  have g1 : Chg (fun q => q = bx) w W1 := Chg.ofExt hx
  have ke := he.1
  have le := at_lt he (by simp)
  have k1 := h1.1
  have f1 := h1.2
  have l1 := at_lt h1 (by simp)
  go_region
  all_goals
    refine then_at ?_
    intro W2 hW
    have h2 : At W2 bx #[.string prog, .int .i64 arg, .slice cs cl cc, .slice ts tl tc, .slice ks kl kc, .slice ss sl sc, .bool st, .bool clo, .int .i64 ost, .int .i64 ov, .int .i64 (len + 1), .int .i64 at'] := by rw [hW]; exact at_drewI (at_put (at_put h1 (by simp) rfl) (by simp) rfl)
    have he2 := show At W2 w.heap.size _ by rw [hW]; exact at_drewI (at_other (at_other he hne) hne)
    have g2 : Chg (fun q => q = bx) w W2 := by rw [hW]; exact Chg.drew (chg_put (chg_put g1))
    clear hW ke le k1 f1 l1 he h1 g1 hx
    have ke := he2.1
    have le := at_lt he2 (by simp)
    have k1 := h2.1
    have f1 := h2.2
    have l1 := at_lt h2 (by simp)
    go_upto_region 4 with fail
    go_region
    all_goals
      first | refine then_at ?_ | refine block_at ?_
      intro W3 hW
      have h3 : At W3 bx #[.string s, .int .i64 a, .slice cs cl cc, .slice ts tl tc, .slice ks kl kc, .slice ss sl sc, .bool st, .bool clo, .int .i64 ost, .int .i64 ov, .int .i64 (len + 1), .int .i64 at'] := by rw [hW]; exact at_drewI (at_put (at_put h2 (by simp) rfl) (by simp) rfl)
      have g3 : Chg (fun q => q = bx) w W3 := by rw [hW]; exact Chg.drew (chg_put (chg_put g2))
      clear hW
      go_wp2
      go_end0
      exact ⟨rfl, g3, h3⟩

set_option maxRecDepth 100000 in
set_option maxHeartbeats 4000000 in
theorem put_close (prog : ByteArray) (arg ost ov len last : Int) (cs ts ks ss : Option Addr) (cl tl kl sl cc tc kc sc : Nat) (st clo : Bool) (bx : Nat) (at' n p a b : Int) (s : ByteArray) (w : World) (h : At w bx #[.string prog, .int .i64 arg, .slice cs cl cc, .slice ts tl tc, .slice ks kl kc, .slice ss sl sc, .bool st, .bool clo, .int .i64 ost, .int .i64 ov, .int .i64 len, .int .i64 last]) (hl : 0 ≤ len) (hl2 : len ≤ 1000000) :
    Calls Try.prog 23 #[.pointer (some ⟨bx, 0, none⟩), .agg #[.int .u8 7, .int .i64 at', .int .i64 n, .int .i64 p, .int .i64 a, .int .i64 b, .string s]] w fun e w' => e = .returned (.tuple #[]) ∧ Chg (fun q => q = bx) w w' ∧ At w' bx #[.string prog, .int .i64 arg, .slice cs cl cc, .slice ts tl tc, .slice ks kl kc, .slice ss sl sc, .bool st, .bool true, .int .i64 p, .int .i64 a, .int .i64 (len + 1), .int .i64 at'] := by
  have lb := at_lt h (by simp)
  go_enter Try.func23, Try.ntmps23
  go_upto_region 1 with fail
  refine wp_at ?_
  intro W1 hW
  have hx : Ext w W1 := by rw [hW]; repeat (first | exact ext_refl _ | assumption | refine ext_more' ?_ _ _ | refine ext_drew ?_ | refine ext_drewN ?_ _ | refine ext_alloc ?_ _)
  have he := at_new (by rw [hW]; repeat (first | exact ext_refl _ | assumption | refine ext_more' ?_ _ _ | refine ext_drew ?_ | refine ext_drewN ?_ _ | refine ext_alloc ?_ _) : Ext (World.alloc w (.cells _ _)) W1)
  clear hW
  have h1 := at_ext h (by simp) hx
  have hne : w.heap.size ≠ bx := by omega
  have g1 : Chg (fun q => q = bx) w W1 := Chg.ofExt hx
  have ke := he.1
  have le := at_lt he (by simp)
  have k1 := h1.1
  have f1 := h1.2
  have l1 := at_lt h1 (by simp)
  go_region
  all_goals
    refine then_at ?_
    intro W2 hW
    have h2 : At W2 bx #[.string prog, .int .i64 arg, .slice cs cl cc, .slice ts tl tc, .slice ks kl kc, .slice ss sl sc, .bool st, .bool clo, .int .i64 ost, .int .i64 ov, .int .i64 (len + 1), .int .i64 at'] := by rw [hW]; exact at_drewI (at_put (at_put h1 (by simp) rfl) (by simp) rfl)
    have he2 := show At W2 w.heap.size _ by rw [hW]; exact at_drewI (at_other (at_other he hne) hne)
    have g2 : Chg (fun q => q = bx) w W2 := by rw [hW]; exact Chg.drew (chg_put (chg_put g1))
    clear hW ke le k1 f1 l1 he h1 g1 hx
    have ke := he2.1
    have le := at_lt he2 (by simp)
    have k1 := h2.1
    have f1 := h2.2
    have l1 := at_lt h2 (by simp)
    go_upto_region 17 with fail
    go_region
    all_goals
      first | refine then_at ?_ | refine block_at ?_
      intro W3 hW
      have h3 : At W3 bx #[.string prog, .int .i64 arg, .slice cs cl cc, .slice ts tl tc, .slice ks kl kc, .slice ss sl sc, .bool st, .bool true, .int .i64 p, .int .i64 a, .int .i64 (len + 1), .int .i64 at'] := by rw [hW]; exact at_drewI (at_put (at_put (at_put h2 (by simp) rfl) (by simp) rfl) (by simp) rfl)
      have g3 : Chg (fun q => q = bx) w W3 := by rw [hW]; exact Chg.drew (chg_put (chg_put (chg_put g2)))
      clear hW
      go_wp2
      go_end0
      exact ⟨rfl, g3, h3⟩
end Go.Proofs.Ythpgmefjgidkgaa
