/- What an event does to a history: a try. -/
import Derived.Test.YthpgmefjgidkgaaM12
namespace Go.Proofs.Ythpgmefjgidkgaa
open Go.RowKit
set_option linter.unusedVariables false
set_option linter.unusedSimpArgs false

theorem set_flat (L : List Int) (i : Nat) (x : Int) : (L.flatMap numC).set i (.int .i64 x) = (L.set i x).flatMap numC := by
  have e : ∀ M : List Int, M.flatMap numC = M.map (fun x => Value.int .i64 x) := fun M => by induction M with
    | nil => rfl
    | cons a l ih => rw [List.flatMap_cons, ih]; rfl
  rw [e, e, List.map_set]
set_option maxRecDepth 100000 in
set_option maxHeartbeats 4000000 in
theorem put_try (prog : ByteArray) (arg ost ov len last : Int) (cs ts ks ss : Option Addr) (cl tl kl sl cc tc kc sc : Nat) (st clo : Bool) (bx : Nat) (L : List Int) (base : Nat) (at' n p a b : Int) (s : ByteArray) (w : World) (h : At w bx #[.string prog, .int .i64 arg, .slice cs cl cc, .slice ts L.length tc, .slice ks kl kc, .slice ss sl sc, .bool st, .bool clo, .int .i64 ost, .int .i64 ov, .int .i64 len, .int .i64 last]) (hl : 0 ≤ len) (hl2 : len ≤ 1000000) (ho : OwnX w base bx 3 1 (.slice ts L.length tc) L.length (L.flatMap numC)) (hbs : base ≤ w.heap.size) (hL : L.length ≤ 1000000) (hn : 1 ≤ n) (hnL : n ≤ L.length) :
    Calls Try.prog 23 #[.pointer (some ⟨bx, 0, none⟩), .agg #[.int .u8 3, .int .i64 at', .int .i64 n, .int .i64 p, .int .i64 a, .int .i64 b, .string s]] w fun e w' => e = .returned (.tuple #[]) ∧ Chg (fun q => q = bx ∨ base ≤ q) w w' ∧ KeepT base bx 3 w w' ∧
      At w' bx #[.string prog, .int .i64 arg, .slice cs cl cc, .slice ts L.length tc, .slice ks kl kc, .slice ss sl sc, .bool st, .bool clo, .int .i64 ost, .int .i64 ov, .int .i64 (len + 1), .int .i64 at'] ∧ OwnX w' base bx 3 1 (.slice ts L.length tc) L.length ((L.set (n - 1).toNat p).flatMap numC) := by
  obtain ⟨m, rfl⟩ : ∃ m : Nat, n = (m : Int) + 1 := ⟨(n - 1).toNat, by omega⟩
  have hm : m < L.length := by omega
  have e1 : ((m : Int) + 1 - 1).toNat = m := by omega
  rw [e1]
  clear e1 hn hnL
  obtain ⟨g, rfl⟩ : ∃ g, ts = some ⟨g, 0, none⟩ := by
    rcases ho.1.2 with ⟨h1, h2⟩ | ⟨g, cap, cur, hv, _⟩
    · omega
    · injection hv with e; exact ⟨g, e⟩
  have HO := Lib.hid ho; clear ho
  have lb := at_lt h (by simp)
  go_enter Try.func23, Try.ntmps23
  go_upto_region 1 with fail
  refine wp_at ?_
  intro W1 hW
  have hx : Ext w W1 := by rw [hW]; repeat (first | exact ext_refl _ | assumption | refine ext_more' ?_ _ _ | refine ext_drew ?_ | refine ext_drewN ?_ _ | refine ext_alloc ?_ _)
  have he := at_new (by rw [hW]; repeat (first | exact ext_refl _ | assumption | refine ext_more' ?_ _ _ | refine ext_drew ?_ | refine ext_drewN ?_ _ | refine ext_alloc ?_ _) : Ext (World.alloc w (.cells _ _)) W1)
  clear hW
  have h1 := at_ext h (by simp) hx
  have hne : w.heap.size ≠ bx := by omega
  have g1 : Chg (fun q => q = bx) w W1 := Chg.ofExt hx
  have ke := he.1
  have le := at_lt he (by simp)
  have k1 := h1.1
  have f1 := h1.2
  have l1 := at_lt h1 (by simp)
  go_region
  all_goals
    refine then_at ?_
    intro W2 hW
    have h2 : At W2 bx #[.string prog, .int .i64 arg, .slice cs cl cc, .slice (some ⟨g, 0, none⟩) L.length tc, .slice ks kl kc, .slice ss sl sc, .bool st, .bool clo, .int .i64 ost, .int .i64 ov, .int .i64 (len + 1), .int .i64 at'] := by rw [hW]; exact at_drewI (at_put (at_put h1 (by simp) rfl) (by simp) rfl)
    have he2 := show At W2 w.heap.size _ by rw [hW]; exact at_drewI (at_other (at_other he hne) hne)
    have g2 : Chg (fun q => q = bx) w W2 := by rw [hW]; exact Chg.drew (chg_put (chg_put g1))
    clear hW ke le k1 f1 l1 he h1 g1 hx
    have ke := he2.1
    have le := at_lt he2 (by simp)
    have k1 := h2.1
    have f1 := h2.2
    have l1 := at_lt h2 (by simp)
    have ho2 := (HO.out.chg g2).1
    obtain ⟨v0, hv0⟩ : ∃ v0, (L.flatMap numC)[m]? = some v0 := ⟨_, List.getElem?_eq_getElem (by rw [flat_len (g := numC) (n := 1) (fun _ => rfl)]; omega)⟩
    have hcg := ho2.cellAt m (by omega)
    rw [hv0] at hcg
    clear hv0
    have hfg := ho2.frozenAt m
    have hgl := (ho2.lt g rfl)
    have hgx : g ≠ bx := fun e => HO.out.2 (by rw [e]; rfl)
    have hge : g ≠ w.heap.size := by have := (HO.out.1.lt g rfl).2; omega
    have HO2 := Lib.hid ho2; clear ho2
    have i1 : (0 : Int) ≤ (m : Int) := by omega
    have i2 : (m : Int) < L.length := by omega
    go_upto_region 9 with fail
    clear hne
    go_region
    all_goals
      refine block_at ?_
      intro W3 hW
      have h3 : At W3 bx #[.string prog, .int .i64 arg, .slice cs cl cc, .slice (some ⟨g, 0, none⟩) L.length tc, .slice ks kl kc, .slice ss sl sc, .bool st, .bool clo, .int .i64 ost, .int .i64 ov, .int .i64 (len + 1), .int .i64 at'] := by rw [hW]; exact at_drewI (at_other h2 (Ne.symm hgx))
      have g3 : Chg (fun q => q = g) W2 W3 := by rw [hW]; exact Chg.drew (chg_put (Chg.refl _ _))
      have ho3 : W3.ownsRow base 3 1 (.slice (some ⟨g, 0, none⟩) L.length tc) L.length ((L.set m p).flatMap numC) := by
        rw [hW, ← set_flat]
        exact own_chgS (S := fun _ => False) (HO2.out.stored m (.int .i64 p)).1 (Chg.drew (Chg.refl _ _)) (fun _ _ h => h)
      clear hW
      have HF := Lib.hid (show Chg (fun q => q = bx ∨ base ≤ q) w W3 from (chg_b g2).trans (g3.mono fun k _ e => .inr (by omega)))
      have HK := Lib.hid (show KeepT base bx 3 w W3 from (keep_chg g2).trans (fun T' sz' v' n' xs' hT ho' => ⟨own_chgS ho'.1 g3 (fun q e e2 => by subst e2; exact own_apart ho'.1 HO2.out hT _ e rfl), ho'.2⟩))
      have H3 := Lib.hid h3
      have HO3 := Lib.hid (show OwnX _ base bx _ _ _ _ _ from ⟨ho3, HO.out.2⟩)
      clear h3 ho3 g3 ke le k1 f1 l1 hcg hfg
      go_wp2
      go_end0
      exact ⟨rfl, HF.out, HK.out, H3.out, HO3.out⟩
end Go.Proofs.Ythpgmefjgidkgaa
