/- The laws' helpers of layer 10: told. -/
import Derived.Test.YtpfkpdimjljeaaaT10b
import Derived.Test.YtpfkpdimjljeaaaN10
import Derived.Test.YtpfkpdimjljeaaaP10
import Derived.Test.YtpfkpdimjljeaaaOp3
namespace Go.Proofs.Ytpfkpdimjljeaaa
open Go.RowKit
set_option linter.unusedVariables false
set_option linter.unusedSimpArgs false

theorem kno_info : (Try.prog.info? 47).map (fun i => (i.zero, i.size, i.bytes)) = some (some (.agg #[.int .i64 0, .int .i64 0, .int .i64 0]), 3, 24) := by kernel_rfl
def knoCs (l : List Kno) : List Value := l.flatMap knoC
theorem knoCs_len (l : List Kno) : (knoCs l).length = l.length * 3 := by
  induction l with
  | nil => rfl
  | cons a l ih => simp only [knoCs, List.flatMap_cons, List.length_append, List.length_cons] at *; rw [ih]; simp [knoC]; omega
theorem knoCs_snoc (l : List Kno) (x : Kno) : knoCs (l ++ [x]) = knoCs l ++ knoC x := by simp [knoCs]
theorem oneCell_kno (x : Kno) : ∀ u ∈ knoC x, u.oneCell' = true := by
  intro u hu
  simp only [knoC, List.mem_cons, List.not_mem_nil, or_false] at hu
  rcases hu with rfl | rfl | rfl <;> rfl
theorem knoCs_get : ∀ (l : List Kno) (i k : Nat), i < l.length → k < 3 → (knoCs l)[i * 3 + k]? = (knoC (l.getD i default))[k]?
  | [], i, k, hi, _ => by simp at hi
  | c :: l, 0, k, _, hk => by
    show (knoC c ++ knoCs l)[0 * 3 + k]? = _
    rw [List.getElem?_append_left (by simp [knoC]; omega)]
    simp
  | c :: l, i + 1, k, hi, hk => by
    show (knoC c ++ knoCs l)[(i + 1) * 3 + k]? = _
    rw [List.getElem?_append_right (by simp [knoC]; omega)]
    have : (i + 1) * 3 + k - (knoC c).length = i * 3 + k := by simp [knoC]; omega
    rw [this, knoCs_get l i k (by simpa using hi) hk]
    simp
theorem ownk_rows {w : World} {base cap : Nat} {ms : Option Addr} {l : List Kno} (h : w.ownsRow base 47 3 (.slice ms l.length cap) l.length (knoCs l)) : Rows_ w ms l.length 3 (fun i => knoC (l.getD i default)) := by
  intro hl
  rcases h.2 with ⟨_, h0⟩ | ⟨g, cap', cur, hv, hb, hg, h1, h2, h3, h4⟩
  · omega
  · injection hv with e1 e2 e3
    subst e1
    refine ⟨g, 0, rfl, (Array.getElem?_eq_some_iff.1 hg).1, fun i hi => ⟨rfl, fun k hk => ?_⟩⟩
    have hlt : i * 3 + k < l.length * 3 := by omega
    rw [← knoCs_get l i k hi hk, ← h4, List.getElem?_take_of_lt hlt, Nat.zero_add]
    unfold World.cell?; dsimp only; rw [hg]; simp
theorem ownk_cap {w : World} {base cap : Nat} {ms : Option Addr} {l : List Kno} (h : w.ownsRow base 47 3 (.slice ms l.length cap) l.length (knoCs l)) : l.length ≤ cap ∧ cap ≤ maxLen := by
  rcases h.2 with ⟨h1, h0⟩ | ⟨g, cap', cur, hv, hb, hg, h1, h2, h3, h4⟩
  · injection h1 with e1 e2 e3
    rw [h0, e3]; exact ⟨Nat.le_refl _, Nat.zero_le _⟩
  · injection hv with e1 e2 e3
    rw [e3]; exact ⟨h1, h2⟩
theorem ownk_ext {w w' : World} {base n : Nat} {v : Value} {xs : List Value} (h : w.ownsRow base 47 3 v n xs) (hx : Ext w w') : w'.ownsRow base 47 3 v n xs := by
  refine ⟨h.1, ?_⟩
  rcases h.2 with hn | ⟨g, cap, cur, rfl, hb, hgg, rest⟩
  · exact .inl hn
  · refine .inr ⟨g, cap, cur, rfl, hb, ?_, rest⟩
    rw [hx.block g (Array.getElem?_eq_some_iff.1 hgg).1]
    exact hgg
/-- Outcomes, of each number the first one alone. -/
def inB (L : List Kno) (m : Int) : Bool := L.any fun k => decide (k.n = m)
def toldF (K : Nat → Kno) : Nat → List Kno
  | 0 => []
  | i + 1 => if inB (toldF K i) (K i).n = true then toldF K i else toldF K i ++ [K i]
theorem toldF_len (K : Nat → Kno) : ∀ i, (toldF K i).length ≤ i
  | 0 => Nat.le_refl _
  | i + 1 => by
    have := toldF_len K i
    unfold toldF
    split
    · omega
    · simp; omega
theorem toldF_in {K : Nat → Kno} {i : Nat} (h : inB (toldF K i) (K i).n = true) : toldF K (i + 1) = toldF K i := by
  show (if _ then _ else _) = _
  rw [if_pos h]
theorem toldF_out {K : Nat → Kno} {i : Nat} (h : inB (toldF K i) (K i).n = false) : toldF K (i + 1) = toldF K i ++ [K i] := by
  show (if _ then _ else _) = _
  rw [if_neg (by simp [h])]
theorem inB_take (L : List Kno) (m : Int) (j : Nat) (hj : j < L.length) : inB (L.take (j + 1)) m = (inB (L.take j) m || decide ((L.getD j default).n = m)) := by
  unfold inB
  rw [List.take_succ_eq_append_getElem hj, List.any_append]
  simp [List.getD, List.getElem?_eq_getElem hj]
def ToldPost (K : Nat → Kno) (n : Nat) (w : World) (e : Ending) (w' : World) : Prop :=
  ∃ ms cap, e = .returned (.slice ms (toldF K n).length cap) ∧ Ext w w' ∧ Rows_ w' ms (toldF K n).length 3 (fun i => knoC ((toldF K n).getD i default)) ∧ (toldF K n).length ≤ cap ∧ cap ≤ maxLen
def ToldInv (K : Nat → Kno) (w : World) (N g : Nat) (v i : Value) (wr : World) : Prop :=
  ∃ (k : Nat) (ms : Option Addr) (cap : Nat), i = .int .i64 k ∧ v = .slice ms (toldF K k).length cap ∧ g + k = N ∧ Ext w wr ∧ wr.ownsRow w.heap.size 47 3 (.slice ms (toldF K k).length cap) (toldF K k).length (knoCs (toldF K k))
def InInv (L : List Kno) (m : Int) (W0 : World) (g : Nat) (th j : Value) (wr : World) : Prop :=
  ∃ k : Nat, j = .int .i64 k ∧ th = .bool (inB (L.take k) m) ∧ g + k = L.length ∧ Ext W0 wr
set_option maxRecDepth 100000 in
set_option maxHeartbeats 8000000 in
theorem told_calls (s : Option Addr) (len cap : Nat) (K : Nat → Kno) (w : World) (hrows : Rows_ w s len 3 (fun i => knoC (K i))) :
    Calls Try.prog 15 #[.slice s len cap] w (ToldPost K (min len 300) w) := by
  have HROWS := Lib.hid hrows; clear hrows
  have hN : min len 300 ≤ len ∧ min len 300 ≤ 300 ∧ (min len 300 = len ∨ min len 300 = 300) := by omega
  generalize min len 300 = N at *
  obtain ⟨N1, N2, N3⟩ := hN
  have HINV := Lib.hid (show ToldInv K w N N (.slice none 0 0) (.int .i64 0) w from ⟨0, none, 0, rfl, rfl, by omega, ext_refl _, ⟨rfl, .inl ⟨rfl, rfl⟩⟩⟩)
  go_enter Try.func15, Try.ntmps15
  go_wp2
  go_loopg [3, 4] N (fun g v i wr => ToldInv K w N g v i wr)
  case atStart => exact HINV.out
  case round =>
    clear HINV
    obtain ⟨i, ms, cp, rfl, rfl, hgi, hx, hown⟩ := hrel
    have HX := Lib.hid hx; have HOWN := Lib.hid hown
    clear hx hown
    have hlL := toldF_len K i
    have HT := Lib.hid (toldF_in (K := K) (i := i)); have HF := Lib.hid (toldF_out (K := K) (i := i))
    have HR := Lib.hid (ownk_rows HOWN.out)
    have HCAP := Lib.hid (ownk_cap HOWN.out)
    generalize hL : toldF K i = L at *
    have HL := Lib.hid hL; clear hL
    obtain ⟨gO, rfl⟩ : ∃ g : Nat, g = gk := ⟨_, rfl⟩
    obtain ⟨wO, rfl⟩ : ∃ g : World, g = wr := ⟨_, rfl⟩
    by_cases hi : i < N
    · obtain ⟨b, o, rfl, hb, c0, c1, c2⟩ := kno_cells HROWS.out HX.out (show i < len by omega)
      have hi1 : (i : Int) < len := by omega
      have hi2 : (i : Int) < 300 := by omega
      clear c0 c1 c2
      go_upto_region 7 with fail
      refine wp_at ?_
      intro W0 hW
      have e0 : Ext wO W0 := by rw [hW]; repeat (first | exact ext_refl _ | assumption | refine ext_more' ?_ _ _ | refine ext_drew ?_ | refine ext_drewN ?_ _ | refine ext_alloc ?_ _)
      have HX0 := Lib.hid (ext_trans HX.out e0)
      have HOWN0 := Lib.hid (ownk_ext HOWN.out e0)
      have HR0 := Lib.hid (rows_on2 HR.out e0)
      clear hW e0 HR HX HOWN
      go_loopg [5, 20] L.length (fun g th j wr => InInv L (K i).n W0 g th j wr)
      case atStart => exact ⟨0, rfl, rfl, by omega, ext_refl _⟩
      case round =>
        obtain ⟨j, rfl, rfl, hgj, hx2⟩ := hrel
        have HX2 := Lib.hid hx2; clear hx2
        by_cases hj : j < L.length
        · have HS := Lib.hid (inB_take L (K i).n j hj)
          obtain ⟨b', o', rfl, hb', d0, d1, d2⟩ := kno_cells HR0.out HX2.out hj
          have hj1 : (j : Int) < L.length := by omega
          generalize inB (L.take j) (K i).n = bj at *
          clear hb'
          go_upto_region 9 with fail
          refine wp_at ?_
          intro W1 hW
          have e1 : Ext wr W1 := by rw [hW]; repeat (first | exact ext_refl _ | assumption | refine ext_more' ?_ _ _ | refine ext_drew ?_ | refine ext_drewN ?_ _ | refine ext_alloc ?_ _)
          have hx1 : Ext W0 W1 := ext_trans HX2.out e1
          obtain ⟨lb, kb⟩ := box_facts (by rw [hW]; repeat (first | exact ext_refl _ | assumption | refine ext_more' ?_ _ _ | refine ext_drew ?_ | refine ext_drewN ?_ _ | refine ext_alloc ?_ _) : Ext (World.alloc wr (.cells _ _)) W1)
          obtain ⟨b2, o2, hbo, hb2, c0, c1, c2⟩ := kno_cells HROWS.out (ext_trans HX0.out hx1) (show i < len by omega)
          injection hbo with hbo; injection hbo with h1 h2; subst h1 h2
          have HX3 := Lib.hid hx1
          clear hW e1 hx1 d0 d1 d2 HX2 c1 c2 hb2
          have i0 : (0 : Int) ≤ i := by omega
          cases bj
          case false =>
            go_quiet (fail)
            go_wp2
            go_roundg (gk - 1)
            case measure => omega
            case rel => exact ⟨j + 1, by go_num, by rw [HS.out]; simp [List.getElem?_eq_getElem hj]; rw [Bool.eq_iff_iff]; simp, by omega, by have hx := HX3.out; repeat (first | exact ext_refl _ | assumption | refine ext_more' ?_ _ _ | refine ext_drew ?_ | refine ext_drewN ?_ _ | refine ext_alloc ?_ _)⟩
          case true =>
            go_quiet (fail)
            go_wp2
            go_roundg (gk - 1)
            case measure => omega
            case rel => exact ⟨j + 1, by go_num, by rw [HS.out]; rfl, by omega, by have hx := HX3.out; repeat (first | exact ext_refl _ | assumption | refine ext_more' ?_ _ _ | refine ext_drew ?_ | refine ext_drewN ?_ _ | refine ext_alloc ?_ _)⟩
        · have hj1 : ¬ ((j : Int) < L.length) := by omega
          have hjl : j = L.length := by omega
          subst hjl
          rw [List.take_length]
          cases hB : inB L (K i).n
          case true =>
            have hT := HT.out
            have HNX := Lib.hid (show ToldInv K w N (gO - 1) (.slice ms L.length cp) (.int .i64 ((i : Int) + 1)) wr from by
              have hq := hT hB
              refine ⟨i + 1, ms, cp, by go_num, by rw [hq], by omega, ext_trans HX0.out HX2.out, by rw [hq]; exact ownk_ext HOWN0.out HX2.out⟩)
            clear hT HT HF hB
            go_wp2
            go_roundg (gO - 1)
            case measure => omega
            case rel => exact HNX.out
          case false =>
            have HTF := Lib.hid (HF.out hB)
            have HX4 := Lib.hid (ext_trans HX0.out HX2.out)
            have HO4 := Lib.hid (ownk_ext HOWN0.out HX2.out)
            clear HT HF hB HX2
            obtain ⟨b2, o2, hbo, hb2, c0, c1, c2⟩ := kno_cells HROWS.out HX4.out (show i < len by omega)
            injection hbo with hbo; injection hbo with h1 h2; subst h1 h2
            have i0 : (0 : Int) ≤ i := by omega
            obtain ⟨i0', hi0, hz0, hz1, hz2⟩ := info_parts kno_info
            have L200 : L.length + 1 ≤ maxLen := by unfold maxLen; omega
            have L47 : (L.length + 1) * 24 ≤ 140737488355328 := by omega
            have hbs : w.heap.size ≤ wr.heap.size := HX4.out.size
            have HOWNA := Lib.hid (show ∀ w', Ext wr w' → w'.ownsRow w.heap.size 47 3 (.slice ms L.length cp) L.length (knoCs L) from fun w' h' => ownk_ext HO4.out h')
            have HLT := Lib.hid (fun k e => (HO4.out.lt k e).1)
            go_wp2_with (at_builtin; refine wpList_append_lies _ rfl (.tmp 38) (.tmp 43) 25 rfl w.heap.size 47 i0' _ 3 24 Try.underlying25 hi0 hz0 hz1 hz2 rfl (by decide) (.slice ms L.length cp) L.length (knoCs L) rfl (HOWNA.out _ (by repeat (first | exact ext_refl _ | assumption | refine ext_more' ?_ _ _ | refine ext_drew ?_ | refine ext_drewN ?_ _ | refine ext_alloc ?_ _))) ⟨wr.heap.size, 0, none⟩ 1 1 (knoC (K i)) rfl (by simp [knoC]) (news_at (X := wr) (by repeat (first | exact ext_refl _ | assumption | refine ext_more' ?_ _ _ | refine ext_drew ?_ | refine ext_drewN ?_ _ | refine ext_alloc ?_ _))) (oneCell_kno _) (by decide) L200 L47 (by simp; omega) _ rfl ?_; intro g cap' w4 hown4 hgrow hat hlt; have HOWN4 := Lib.hid hown4; have HX5 := Lib.hid (ext_grown (ext_alloc HX4.out _) hgrow HLT.out); clear hown4 hgrow hat hlt)
            go_roundg (gO - 1)
            case measure => omega
            case rel =>
              have hq : toldF K (i + 1) = L ++ [K i] := HTF.out
              refine ⟨i + 1, some ⟨g, 0, none⟩, cap', by go_num, by rw [hq]; simp, by omega, HX5.out, ?_⟩
              rw [hq, knoCs_snoc, List.length_append]
              exact HOWN4.out
    · have hi3 : ¬ ((i : Int) < len ∧ (i : Int) < 300) := by omega
      have hiN : i = N := by omega
      have HFIN := Lib.hid (show ToldPost K N w (.returned (.slice ms L.length cp)) wO from ⟨ms, cp, by rw [← hiN, HL.out], HX.out, by rw [← hiN, HL.out]; exact HR.out, by rw [← hiN, HL.out]; exact HCAP.out.1, HCAP.out.2⟩)
      by_cases hl : (i : Int) < len
      · have h3 : ¬ ((i : Int) < 300) := by omega
        clear hi3 hiN
        go_wp2
        go_ret
        exact HFIN.out
      · clear hi3 hiN
        go_wp2
        go_ret
        exact HFIN.out
end Go.Proofs.Ytpfkpdimjljeaaa
