/- What run's functions do: a timer is begun. -/
import Derived.Test.YtpfkpdimjljeaaaT10b
namespace Go.Proofs.Ytpfkpdimjljeaaa
open Go.RowKit
set_option linter.unusedVariables false
set_option linter.unusedSimpArgs false

set_option maxRecDepth 100000 in
set_option maxHeartbeats 8000000 in
theorem begin_app11 (R : Rn) (a b c n : Int) (s : ByteArray) (bx base : Nat) (l : List Cmd) (w : World) (h : At w bx (rnC R)) (a0 : 0 ≤ a) (a1 : a < 16) (b0 : 0 ≤ b) (b1 : b < 16) (hm : R.mlen < 200) (ho : OwnsC w base R l) (hbx : bx < base) (hbs : base ≤ w.heap.size) :
    Calls Try.prog 30 #[.pointer (some ⟨bx, 0, none⟩), .agg #[.int .u8 11, .int .i64 a, .int .i64 b, .int .i64 c, .int .i64 n, .string s]] w fun e w' => e = .returned (.bool true) ∧ Chg (fun k => k = bx ∨ base ≤ k) w w' ∧ ∃ g cap, At w' bx (rnC { R with r := putR R.r a.toNat (R.mlen + 1), ms := some ⟨g, 0, none⟩, mlen := R.mlen + 1, mcap := cap }) ∧
      w'.ownsRow base 55 5 (.slice (some ⟨g, 0, none⟩) (R.mlen + 1) cap) (R.mlen + 1) (cmdCs (l ++ [⟨R.mlen + 1, 2, s, mx (R.r b.toNat) 0, c⟩])) := by
  have hne : (Value.slice R.ms R.mlen R.mcap).ownBlock ≠ some bx := fun e => by have := (ho.lt _ e).1; omega
  have HO := Lib.hid ho; clear ho
  go_enter Try.func30, Try.ntmps30
  go_upto_region 1 with fail
  refine wp_at ?_
  intro W1 hW
  have hx : Ext w W1 := by rw [hW]; repeat (first | exact ext_refl _ | assumption | refine ext_more' ?_ _ _ | refine ext_drew ?_ | refine ext_drewN ?_ _ | refine ext_alloc ?_ _)
  obtain ⟨li, ci⟩ := box_facts (by rw [hW]; repeat (first | exact ext_refl _ | assumption | refine ext_more' ?_ _ _ | refine ext_drew ?_ | refine ext_drewN ?_ _ | refine ext_alloc ?_ _) : Ext (World.alloc w (.cells _ _)) W1)
  clear hW
  have lb := at_lt h (by rw [rn_size]; decide)
  have h1 := at_ext h (by rw [rn_size]; decide) hx
  have g1 : Chg (fun k => k = bx) w W1 := chg_ext hx
  have c26 : W1.cell? ⟨bx, 26, none⟩ = some (.slice R.ms R.mlen R.mcap) := h1.1 26
  have f26 : W1.frozen? ⟨bx, 26, none⟩ = false := h1.2 26
  have hm2 : ((R.mlen : Int) == 200) = false := by simp; omega
  have crb : W1.cell? ⟨bx, 3 + b.toNat, none⟩ = some (.int .i64 (R.r b.toNat)) := (h1.1 _).trans (rn_reg R _ (by omega))
  have HX1 := Lib.hid hx
  have lb1 := at_lt h1 (by rw [rn_size]; decide)
  go_wp2_with fail
  go_region
  refine then_at ?_
  intro W2 hW
  have e2 : Ext W1 W2 := by rw [hW]; repeat (first | exact ext_refl _ | assumption | refine ext_more' ?_ _ _ | refine ext_drew ?_ | refine ext_drewN ?_ _ | refine ext_alloc ?_ _)
  have ab : At W2 W1.heap.size _ := at_new (by rw [hW]; repeat (first | exact ext_refl _ | assumption | refine ext_more' ?_ _ _ | refine ext_drew ?_ | refine ext_drewN ?_ _ | refine ext_alloc ?_ _) : Ext (W1.alloc (.cells _ _)) W2)
  have nbw : W1.heap.size ≠ w.heap.size := by omega
  obtain ⟨li2, ci2⟩ := box_on e2 li ci
  clear li ci
  have li := li2; have ci := ci2
  clear li2 ci2
  have HX2 := Lib.hid (ext_trans hx e2)
  have h2 := at_ext h1 (by rw [rn_size]; decide) e2
  have nbx : W1.heap.size ≠ bx := by omega
  have HB := Lib.hid (hx.size)
  have lB : W1.heap.size < W2.heap.size := at_lt ab (by simp)
  clear hW c26 f26 crb h1 hx e2 HX1 lb1 g1
  generalize W1.heap.size = B at *
  have cB := ab.1; have fB := ab.2
  go_upto_region 9 with fail
  refine wp_at ?_
  intro W3 hW
  have e3 : Ext w W3 := by rw [hW]; exact (ext_set (ext_set HX2.out HB.out _) HB.out _)
  have h3 : At W3 bx (rnC R) := by rw [hW]; exact (at_other (at_other h2 nbx.symm) nbx.symm)
  have ab3 : At W3 B #[.int .i64 (R.mlen + 1), .int .u8 2, .string s, .int .i64 (mx (R.r b.toNat) 0), .int .i64 c] := by rw [hW]; exact (at_put (at_put ab (by simp) rfl) (by simp) rfl)
  have ci3 : ∀ i, W3.cell? ⟨w.heap.size, i, none⟩ = #[.int .u8 11, .int .i64 a, .int .i64 b, .int .i64 c, .int .i64 n, .string s][i]? := by rw [hW]; exact (cells_other (cells_other ci nbw.symm) nbw.symm)
  have li3 : w.heap.size < W3.heap.size := by rw [hW]; simpa [World.setCell] using li
  have lB3 : B < W3.heap.size := by rw [hW]; simpa [World.setCell] using lB
  have HO3 := Lib.hid (own_ext HO.out e3)
  have g3 : Chg (fun k => k = bx ∨ base ≤ k) w W3 := chg_ext' e3
  clear hW li ci cB fB lB h2 ab HX2
  have li := li3; have ci := ci3; have lB := lB3; have cB := ab3.1; have fB := ab3.2
  clear li3 ci3 lB3 ab3
  have HX2 := Lib.hid e3; clear e3
  have c26 : W3.cell? ⟨bx, 26, none⟩ = some (.slice R.ms R.mlen R.mcap) := h3.1 26
  have f26 : W3.frozen? ⟨bx, 26, none⟩ = false := h3.2 26
  have l3 := at_lt h3 (by rw [rn_size]; decide)
  obtain ⟨i0, hi0, hz0, hz1, hz2⟩ := info_parts cmd_info
  have HOWN := Lib.hid (show ∀ w', Ext W3 w' → OwnsC w' base R l from fun w' h' => own_ext HO3.out h')
  have HAT := Lib.hid h3
  have HNE := Lib.hid hne
  have L200 : R.mlen + 1 ≤ maxLen := by unfold maxLen; omega
  have L47 : (R.mlen + 1) * 48 ≤ 140737488355328 := by omega
  go_region_law (refine step_append_lies _ rfl (.tmp 51) (.tmp 53) 33 rfl base 55 i0 _ 5 48 Try.underlying33 hi0 hz0 hz1 hz2 rfl (by decide) (.slice R.ms R.mlen R.mcap) R.mlen (cmdCs l) (by simp [Act.eval, Act.put]) (HOWN.out _ (by repeat (first | exact ext_refl _ | assumption | refine ext_more' ?_ _ _ | refine ext_drew ?_ | refine ext_drewN ?_ _ | refine ext_alloc ?_ _))) ⟨W3.heap.size, 0, none⟩ 1 1 (cmdC ⟨R.mlen + 1, 2, s, mx (R.r b.toNat) 0, c⟩) (by simp [Act.eval, Act.put]) (by simp [cmdC]) (news_at (X := W3) (by repeat (first | exact ext_refl _ | assumption | refine ext_more' ?_ _ _ | refine ext_drew ?_ | refine ext_drewN ?_ _ | refine ext_alloc ?_ _))) (oneCell_cmd _) (by decide) L200 L47 (by simp; omega) _ rfl ?_; intro g cap w4 hown4 hgrow hat hlt; have h4 := grown_at hgrow (at_ext HAT.out (by rw [rn_size]; decide) (by repeat (first | exact ext_refl _ | assumption | refine ext_more' ?_ _ _ | refine ext_drew ?_ | refine ext_drewN ?_ _ | refine ext_alloc ?_ _) : Ext W3 _)) (by rw [rn_size]; decide) hne; clear c26 f26; have c26 := h4.1 26; have f26 := h4.2 26; simp only [rnC, List.getElem?_toArray, List.getElem?_cons_succ, List.getElem?_cons_zero] at c26; have HOWN4 := Lib.hid hown4; have HGROW := Lib.hid hgrow; have HGAT := Lib.hid hat; have HAT4 := Lib.hid h4; clear hown4 hgrow hat h4)
  all_goals
    refine then_at ?_
    intro W5 hW
    have hne4 : g ≠ bx := by
      rcases HGAT.out with e | e
      · intro e2; rw [e2] at e; exact hne e
      · rw [e]; simp; omega
    have bg : base ≤ g := by
      obtain ⟨_, _, he, hb, _⟩ := HOWN4.out.form (by omega)
      injection he with he; injection he with he; injection he with he; omega
    have HXN := Lib.hid (keepX (X := W3) HGROW.out (by repeat (first | exact ext_refl _ | assumption | refine ext_more' ?_ _ _ | refine ext_drew ?_ | refine ext_drewN ?_ _ | refine ext_alloc ?_ _)))
    have n1 : (Value.slice R.ms R.mlen R.mcap).ownBlock ≠ some w.heap.size := fun e => Nat.lt_irrefl _ (HO.out.lt _ e).2
    have n2 : (Value.slice R.ms R.mlen R.mcap).ownBlock ≠ some B := fun e => by have := (HO.out.lt _ e).2; have := HB.out; omega
    have ci4 := fun i => (World.cell?_of_block (a := ⟨w.heap.size, i, none⟩) (HGROW.out.block _ (Nat.lt_of_lt_of_le li HXN.out.size) (Ne.symm n1))).trans ((box_on HXN.out li ci).2 i)
    have cB4 := fun i => (World.cell?_of_block (a := ⟨B, i, none⟩) (HGROW.out.block _ (Nat.lt_of_lt_of_le lB HXN.out.size) (Ne.symm n2))).trans ((box_on HXN.out lB cB).2 i)
    have g4 : Chg (fun k => k = bx ∨ base ≤ k) W3 w4 := (chg_ext' HXN.out).trans (chg_grown HGROW.out (fun k e => (HO.out.lt k e).1))
    have g5 : Chg (fun k => k = bx ∨ base ≤ k) w W5 := by rw [hW]; exact Chg.setCell (g3.trans g4) (.inr (.inl rfl)) _
    have h5 : At W5 bx (rnC { R with ms := some ⟨g, 0, none⟩, mlen := R.mlen + 1, mcap := cap }) := by rw [hW]; exact at_put HAT4.out (by rw [rn_size]; decide) rfl
    have ci5 := cells_oth hW ci4 (by omega)
    have cB5 := cells_oth hW cB4 nbx
    have HO5 : W5.ownsRow base 55 5 (.slice (some ⟨g, 0, none⟩) (R.mlen + 1) cap) (R.mlen + 1) (cmdCs l ++ cmdC ⟨R.mlen + 1, 2, s, mx (R.r b.toNat) 0, c⟩) := by rw [hW]; exact own_chg HOWN4.out chg_set (by simp [Value.ownBlock]; exact hne4)
    have HO5h := Lib.hid HO5
    clear hW ci cB ci4 cB4 c26 f26 HOWN4 HGROW HGAT HAT4 HOWN HAT g4 HO5 n1 n2 h3 fB g3 HXN
    have cra : W5.cell? ⟨bx, 3 + a.toNat, none⟩ = some (.int .i64 (R.r a.toNat)) := (h5.1 _).trans (rn_reg { R with ms := some ⟨g, 0, none⟩, mlen := R.mlen + 1, mcap := cap } _ (by omega))
    have fra : W5.frozen? ⟨bx, 3 + a.toNat, none⟩ = false := h5.2 _
    go_wp2_with fail
    go_region
    go_wp2
    go_ret
    refine ⟨rfl, ?_, g, cap, ?_, ?_⟩
    · first | exact Chg.drew (Chg.setCell g5 (.inr (.inl rfl)) _) | exact Chg.setCell g5 (.inr (.inl rfl)) _ | exact Chg.setCell (Chg.drew g5) (.inr (.inl rfl)) _
    · first | exact at_drew (at_put h5 (by rw [rn_size]; omega) (rn_putR { R with ms := some ⟨g, 0, none⟩, mlen := R.mlen + 1, mcap := cap } _ (by omega) _)) | exact at_put h5 (by rw [rn_size]; omega) (rn_putR { R with ms := some ⟨g, 0, none⟩, mlen := R.mlen + 1, mcap := cap } _ (by omega) _) | exact at_put (at_drew h5) (by rw [rn_size]; omega) (rn_putR { R with ms := some ⟨g, 0, none⟩, mlen := R.mlen + 1, mcap := cap } _ (by omega) _)
    · rw [cmdCs_snoc]
      refine own_chg (bx := bx) HO5h.out ?_ (by simp [Value.ownBlock]; exact hne4)
      first | exact Chg.drew chg_set | exact chg_set | exact (chg_drew (Chg.refl _ _)).trans chg_set
end Go.Proofs.Ytpfkpdimjljeaaa
