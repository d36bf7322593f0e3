/- What run's functions do: waits for a number that is over. -/
import Derived.Test.YtpfkpdimjljeaaaP10
namespace Go.Proofs.Ytpfkpdimjljeaaa
open Go.RowKit
set_option linter.unusedVariables false
set_option linter.unusedSimpArgs false

set_option maxRecDepth 100000 in
set_option maxHeartbeats 8000000 in
theorem wait_got (R : Rn) (o a b c n : Int) (s : ByteArray) (bx i : Nat) (w : World) (K : Nat → Kno) (h : At w bx (rnC R)) (a0 : 0 ≤ a) (a1 : a < 16) (b0 : 0 ≤ b) (b1 : b < 16) (e0 : 0 ≤ c) (e1 : c < 16) (hn : 1 ≤ R.r b.toNat) (hn' : R.r b.toNat ≤ R.mlen) (hlen : R.klen ≤ 1000000) (hrows : Rows_ w R.ks R.klen 3 (fun i => knoC (K i))) (hi : idxF K R.klen (R.r b.toNat) = i) (hik : i < R.klen) :
    Calls Try.prog 31 #[.pointer (some ⟨bx, 0, none⟩), .agg #[.int .u8 o, .int .i64 a, .int .i64 b, .int .i64 c, .int .i64 n, .string s]] w fun e w' => e = .returned (.bool true) ∧ Chg (fun k => k = bx) w w' ∧ At w' bx (rnC { R with r := putR (putR R.r a.toNat (K i).out.v) c.toNat (K i).out.st }) := by
  have HI := Lib.hid hi; clear hi
  have HROWS := Lib.hid hrows; clear hrows
  go_enter Try.func31, Try.ntmps31
  go_upto_region 1 with fail
  refine wp_at ?_
  intro W1 hW
  have hx : Ext w W1 := by rw [hW]; repeat (first | exact ext_refl _ | assumption | refine ext_more' ?_ _ _ | refine ext_drew ?_ | refine ext_drewN ?_ _ | refine ext_alloc ?_ _)
  obtain ⟨li, ci⟩ := box_facts (by rw [hW]; repeat (first | exact ext_refl _ | assumption | refine ext_more' ?_ _ _ | refine ext_drew ?_ | refine ext_drewN ?_ _ | refine ext_alloc ?_ _) : Ext (World.alloc w (.cells _ _)) W1)
  clear hW
  have lb := at_lt h (by rw [rn_size]; decide)
  have h1 := at_ext h (by rw [rn_size]; decide) hx
  have g1 : Chg (fun k => k = bx) w W1 := chg_ext hx
  have lb1 := at_lt h1 (by rw [rn_size]; decide)
  have crb : W1.cell? ⟨bx, 3 + b.toNat, none⟩ = some (.int .i64 (R.r b.toNat)) := (h1.1 _).trans (rn_reg R _ (by omega))
  go_region
  all_goals
    refine then_at ?_
    intro W2 hW
    have hx2 : Ext W1 W2 := by rw [hW]; repeat (first | exact ext_refl _ | assumption | refine ext_more' ?_ _ _ | refine ext_drew ?_ | refine ext_drewN ?_ _ | refine ext_alloc ?_ _)
    obtain ⟨ln, cn⟩ := box_facts (by rw [hW]; repeat (first | exact ext_refl _ | assumption | refine ext_more' ?_ _ _ | refine ext_drew ?_ | refine ext_drewN ?_ _ | refine ext_alloc ?_ _) : Ext (World.alloc _ (.cells _ _)) W2)
    clear hW
    (try simp only [drew_sz, sz_alloc] at ln cn)
    have h2 := at_ext h1 (by rw [rn_size]; decide) hx2
    have g2 := chg_more g1 (chg_ext hx2)
    obtain ⟨li, ci⟩ := box_on hx2 li ci
    have lb2 := at_lt h2 (by rw [rn_size]; decide)
    clear h1 g1 crb
    go_wp2_with fail
    refine wp_at ?_
    intro W3 hW
    have hx3 : Ext W2 W3 := by rw [hW]; repeat (first | exact ext_refl _ | assumption | refine ext_more' ?_ _ _ | refine ext_drew ?_ | refine ext_drewN ?_ _ | refine ext_alloc ?_ _)
    obtain ⟨lo, co⟩ := box_facts (by rw [hW]; repeat (first | exact ext_refl _ | assumption | refine ext_more' ?_ _ _ | refine ext_drew ?_ | refine ext_drewN ?_ _ | refine ext_alloc ?_ _) : Ext (World.alloc _ (.cells _ _)) W3)
    have ao : At W3 W2.heap.size _ := at_new (by rw [hW]; repeat (first | exact ext_refl _ | assumption | refine ext_more' ?_ _ _ | refine ext_drew ?_ | refine ext_drewN ?_ _ | refine ext_alloc ?_ _) : Ext (World.alloc _ (.cells _ _)) W3)
    clear hW
    (try simp only [drew_sz, sz_alloc] at lo co)
    have h3 := at_ext h2 (by rw [rn_size]; decide) hx3
    have g3 := chg_more g2 (chg_ext hx3)
    obtain ⟨li, ci⟩ := box_on hx3 li ci
    obtain ⟨ln, cn⟩ := box_on hx3 ln cn
    have lb3 := at_lt h3 (by rw [rn_size]; decide)
    clear h2 g2
    have c26 : W3.cell? ⟨bx, 26, none⟩ = some (.slice R.ms R.mlen R.mcap) := h3.1 26
    have f26 : W3.frozen? ⟨bx, 26, none⟩ = false := h3.2 26
    have HX := Lib.hid (ext_trans hx (ext_trans hx2 hx3))
    have c20 : W3.cell? ⟨bx, 20, none⟩ = some (.slice R.ks R.klen R.kcap) := h3.1 20
    have f20 : W3.frozen? ⟨bx, 20, none⟩ = false := h3.2 20
    go_region
    go_upto_region 5 with (go_at_call 45; refine (index_calls _ _ _ K (R.r b.toNat) W1.heap.size W3.drew ln (cn 0) hlen (rows_on2 HROWS.out (ext_drew HX.out))).mono ?_; rw [HI.out]; rintro e w1 ⟨rfl, hb⟩; obtain ⟨r, d, rfl⟩ := ext_form hb; clear hb)
    refine wp_at ?_
    intro W5 hW
    have hx5 : Ext W3 W5 := by rw [hW]; repeat (first | exact ext_refl _ | assumption | refine ext_more' ?_ _ _ | refine ext_drew ?_ | refine ext_drewN ?_ _ | refine ext_alloc ?_ _)
    clear hW
    have h5 := at_ext h3 (by rw [rn_size]; decide) hx5
    have g5 := chg_more g3 (chg_ext hx5)
    obtain ⟨li, ci⟩ := box_on hx5 li ci
    obtain ⟨ln, cn⟩ := box_on hx5 ln cn
    obtain ⟨lo, co⟩ := box_on hx5 lo co
    have lb5 := at_lt h5 (by rw [rn_size]; decide)
    obtain ⟨kb, ko, hks, hkb, k0, k1, k2⟩ := kno_cells HROWS.out (ext_trans HX.out hx5) hik
    have c20' : W5.cell? ⟨bx, 20, none⟩ = some (.slice (some ⟨kb, ko, none⟩) R.klen R.kcap) := by rw [← hks]; exact h5.1 20
    clear hks
    have hi3 : (i : Int) < R.klen := by omega
    have ao5 := at_ext ao (by decide) hx5
    have fo0 : W5.frozen? ⟨W2.heap.size, 0, none⟩ = false := ao5.2 0
    have fo1 : W5.frozen? ⟨W2.heap.size, 1, none⟩ = false := ao5.2 1
    have hsz := hx.size
    have ne1 : bx ≠ W2.heap.size := by omega
    have ne2 : w.heap.size ≠ W2.heap.size := by omega
    go_upto_region 9 with fail
    refine wp_at ?_
    intro W6 hW
    have h6 : At W6 bx (rnC R) := by rw [hW]; exact at_other (at_other h5 ne1) ne1
    have ao6 : At W6 W2.heap.size #[.int .i64 (K i).out.st, .int .i64 (K i).out.v] := by rw [hW]; exact at_put (at_put ao5 (by decide) rfl) (by simp) rfl
    have ci6 : ∀ j, W6.cell? ⟨w.heap.size, j, none⟩ = #[.int .u8 o, .int .i64 a, .int .i64 b, .int .i64 c, .int .i64 n, .string s][j]? := by rw [hW]; exact cells_other (cells_other ci ne2) ne2
    have li6 : w.heap.size < W6.heap.size := by rw [hW]; simp [World.setCell]; omega
    have lo6 : W2.heap.size < W6.heap.size := by rw [hW]; simp [World.setCell]; omega
    have g6 : Chg (fun k => k = bx) w W6 := by rw [hW]; exact Chg.setCell (Chg.setCell g5 (.inl (by show w.heap.size ≤ W2.heap.size; omega)) _) (.inl (by show w.heap.size ≤ W2.heap.size; omega)) _
    have co6 := ao6.1
    clear hW h5 g5 ci li lo co ao5 fo0 fo1 c20' k0 k1 k2
    have li := li6; have ci := ci6; have lo := lo6; have co := co6
    clear li6 ci6 lo6 co6 ao6
    have lb6 := at_lt h6 (by rw [rn_size]; decide)
    have cra : W6.cell? ⟨bx, 3 + a.toNat, none⟩ = some (.int .i64 (R.r a.toNat)) := (h6.1 _).trans (rn_reg R _ (by omega))
    have fra : W6.frozen? ⟨bx, 3 + a.toNat, none⟩ = false := h6.2 _
    go_region
    refine then_at ?_
    intro W4 hW
    have g4 : Chg (fun k => k = bx) w W4 := by rw [hW]; repeat (first | exact Chg.refl _ _ | assumption | refine chg_put ?_ | refine chg_drew ?_)
    have h4 : At W4 bx (rnC { R with r := putR R.r a.toNat ((K i).out.v) }) := by
      rw [hW]
      first | exact at_drew (at_put h6 (by rw [rn_size]; omega) (rn_putR R _ (by omega) ((K i).out.v))) | exact at_put (at_drew h6) (by rw [rn_size]; omega) (rn_putR R _ (by omega) ((K i).out.v)) | exact at_put h6 (by rw [rn_size]; omega) (rn_putR R _ (by omega) ((K i).out.v)) | exact at_drew (at_drew (at_put h6 (by rw [rn_size]; omega) (rn_putR R _ (by omega) ((K i).out.v)))) | exact at_drew (at_drew (at_put h6 (by rw [rn_size]; omega) (rn_putR R _ (by omega) ((K i).out.v)))) | exact at_put (at_drew (at_drew h6)) (by rw [rn_size]; omega) (rn_putR R _ (by omega) ((K i).out.v)) | exact at_drew (at_put (at_drew h6) (by rw [rn_size]; omega) (rn_putR R _ (by omega) ((K i).out.v)))
    obtain ⟨li, ci⟩ := chg_keep (b := bx) (by rw [hW]; repeat (first | exact Chg.refl _ _ | assumption | refine chg_put ?_ | refine chg_drew ?_) : Chg (fun k => k = bx) W6 W4) li (by omega) ci
    obtain ⟨lo, co⟩ := chg_keep (b := bx) (by rw [hW]; repeat (first | exact Chg.refl _ _ | assumption | refine chg_put ?_ | refine chg_drew ?_) : Chg (fun k => k = bx) W6 W4) lo (by omega) co
    clear hW cra fra h6
    go_wp2_with fail
    have crc : W4.cell? ⟨bx, 3 + c.toNat, none⟩ = some (.int .i64 (({ R with r := putR R.r a.toNat ((K i).out.v) } : Rn).r c.toNat)) := (h4.1 _).trans (rn_reg { R with r := putR R.r a.toNat ((K i).out.v) } _ (by omega))
    have frc : W4.frozen? ⟨bx, 3 + c.toNat, none⟩ = false := h4.2 _
    go_region
    go_wp2
    go_ret
    refine ⟨rfl, by repeat (first | exact Chg.refl _ _ | assumption | refine chg_put ?_ | refine chg_drew ?_), ?_⟩
    first | exact at_drew (at_put h4 (by rw [rn_size]; omega) (rn_putR { R with r := putR R.r a.toNat ((K i).out.v) } _ (by omega) ((K i).out.st))) | exact at_put (at_drew h4) (by rw [rn_size]; omega) (rn_putR { R with r := putR R.r a.toNat ((K i).out.v) } _ (by omega) ((K i).out.st)) | exact at_put h4 (by rw [rn_size]; omega) (rn_putR { R with r := putR R.r a.toNat ((K i).out.v) } _ (by omega) ((K i).out.st)) | exact at_drew (at_drew (at_put h4 (by rw [rn_size]; omega) (rn_putR { R with r := putR R.r a.toNat ((K i).out.v) } _ (by omega) ((K i).out.st)))) | exact at_put (at_drew (at_drew h4)) (by rw [rn_size]; omega) (rn_putR { R with r := putR R.r a.toNat ((K i).out.v) } _ (by omega) ((K i).out.st)) | exact at_drew (at_put (at_drew h4) (by rw [rn_size]; omega) (rn_putR { R with r := putR R.r a.toNat ((K i).out.v) } _ (by omega) ((K i).out.st)))
end Go.Proofs.Ytpfkpdimjljeaaa
