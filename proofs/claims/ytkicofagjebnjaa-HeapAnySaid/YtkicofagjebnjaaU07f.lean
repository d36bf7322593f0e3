/- HeapAny. -/
import Derived.Test.YtkicofagjebnjaaR07
import Derived.Test.YtkicofagjebnjaaSp7c
import Derived.Test.YtkicofagjebnjaaOp7
namespace Go.Proofs.Ytkicofagjebnjaa
open Go.RowKit
set_option linter.unusedVariables false
set_option linter.unusedSimpArgs false

theorem perm_put {S T : List Tmr} {i q : Nat} (h : T.Perm (S.take i)) (hi : i < S.length) : (T.take q ++ [at_ S i] ++ T.drop q).Perm (S.take (i + 1)) := by
  rw [List.take_succ_eq_append_getElem hi, at_eq hi]
  have h1 : (T.take q ++ [S[i]] ++ T.drop q).Perm (T.take q ++ T.drop q ++ [S[i]]) := by
    rw [List.append_assoc, List.append_assoc]
    exact (List.perm_append_comm (l₁ := [S[i]]) (l₂ := T.drop q)).append_left _
  rw [List.take_append_drop] at h1
  exact h1.trans (h.append_right _)
theorem take_succ_perm {T Sb : List Tmr} {j : Nat} (h : Sb.Perm (T.take j)) (hj : j < T.length) : (at_ T j :: Sb).Perm (T.take (j + 1)) := by
  rw [List.take_succ_eq_append_getElem hj, at_eq hj]
  exact (List.perm_append_comm (l₁ := [T[j]]) (l₂ := Sb)).trans (h.append_right _)
/-- What one round makes: the timer put, the other one put and struck out between. -/
def rndS (z : Tmr) (has : Bool) (Sb : List Tmr) (x : Tmr) : List Tmr :=
  if has = true then (match fnd z.id (ins x Sb) with | some y => ins y (wo z.id (ins x Sb)) | none => ins x Sb) else wo z.id (ins x (ins z Sb))
theorem rndS_perm {z x : Tmr} {has : Bool} {Sb : List Tmr} (hi : Ids (x :: Sb)) (hn : has = false → ∀ y ∈ x :: Sb, y.id ≠ z.id) : (rndS z has Sb x).Perm (x :: Sb) := by
  unfold rndS
  split
  · split
    · rename_i y hy
      obtain ⟨h1, h2⟩ := fnd_mem hy
      have hid : Ids (ins x Sb) := hi.perm (ins_perm x Sb).symm
      have h3 : (y :: wo z.id (ins x Sb)).Perm (ins x Sb) := by
        obtain ⟨a, b, e⟩ := List.append_of_mem h1
        have p1 : (ins x Sb).Perm (y :: (a ++ b)) := by rw [e]; exact List.perm_middle
        have p2 := wo_cons_perm hid p1
        rw [h2] at p2
        exact (List.Perm.cons y p2).trans p1.symm
      exact ((ins_perm _ _).trans h3).trans (ins_perm _ _)
    · exact ins_perm _ _
  · rename_i h
    have hb : has = false := by simpa using h
    have hz := hn hb
    have p1 : (ins x (ins z Sb)).Perm (z :: x :: Sb) := (ins_perm _ _).trans ((List.Perm.cons x (ins_perm _ _)).trans (List.Perm.swap _ _ _))
    have hid : Ids (z :: x :: Sb) := by
      unfold Ids at hi ⊢
      rw [List.map_cons, List.nodup_cons]
      refine ⟨fun hm => ?_, hi⟩
      obtain ⟨y, hy, e⟩ := List.mem_map.1 hm
      exact hz y hy e
    exact wo_cons_perm (hid.perm p1.symm) p1
theorem rndS_srt {z x : Tmr} {has : Bool} {Sb : List Tmr} (hs : Srt Sb) (hi : Ids (x :: Sb)) (hn : has = false → ∀ y ∈ x :: Sb, y.id ≠ z.id) : Srt (rndS z has Sb x) := by
  have hx : ∀ y ∈ Sb, y.id ≠ x.id := fun y hy e => (List.nodup_cons.1 hi).1 (by show x.id ∈ _; rw [← e]; exact List.mem_map_of_mem (f := fun x : Tmr => x.id) hy)
  have h1 : Srt (ins x Sb) := ins_srt hs hx
  unfold rndS
  split
  · split
    · rename_i y hy
      obtain ⟨_, h2⟩ := fnd_mem hy
      refine ins_srt (wo_srt h1) (fun a ha e => ?_)
      have := (List.mem_filter.1 ha).2
      rw [e, h2] at this
      simp at this
    · exact h1
  · rename_i h
    have hb : has = false := by simpa using h
    have hz := hn hb
    have h2 : Srt (ins z Sb) := ins_srt hs (fun y hy => hz y (List.mem_cons_of_mem _ hy))
    refine wo_srt (ins_srt h2 (fun y hy => ?_))
    rcases List.mem_cons.1 ((ins_perm _ _).subset hy) with rfl | hy
    · exact fun e => hz x List.mem_cons_self e.symm
    · exact hx y hy

theorem byt_cell {w W1 : World} {s : Option Addr} {len : Nat} {V : Nat → Int} (h : Rows_ w s len 1 (fun i => bytC (V i))) (hx : Ext w W1) {i : Nat} (hi : i < len) : ∃ b o, s = some ⟨b, o, none⟩ ∧ b < W1.heap.size ∧ W1.cell? ⟨b, o + i, none⟩ = some (.int .u8 (V i)) := by
  obtain ⟨b, o, rfl, hb, hr⟩ := h (by omega)
  have := (hr i hi).2 0 (by decide)
  refine ⟨b, o, rfl, Nat.lt_of_lt_of_le hb hx.size, ?_⟩
  rw [hx.cell (p := ⟨b, o + i, none⟩) hb]
  simpa [bytC] using this

set_option maxRecDepth 100000 in
set_option maxHeartbeats 16000000 in
theorem any_walk (z : Tmr) (s sb : Option Addr) (cap cb : Nat) (l : List Tmr) (B : List Int) (w : World) (hl : Rows_ w s l.length 2 (fun i => tmrC (at_ l i))) (hca : l.length ≤ cap) (hmx : cap ≤ maxLen)
    (hB : Rows_ w sb B.length 1 (fun i => bytC (B.getD i 0))) (hcb : B.length ≤ cb) (hmb : cb ≤ maxLen) (hbs : ∀ i, i < B.length → 0 ≤ B.getD i 0 ∧ B.getD i 0 ≤ 255) :
    Calls Try.prog 5 #[.slice s l.length cap, .slice sb B.length cb, .agg #[.int .i64 z.due, .int .i64 z.id]] w fun e w' => e = .returned (.bool true) ∧ Ext w w' := by
  have HLL := Lib.hid hl; have HBB := Lib.hid hB; have HBS := Lib.hid hbs
  have HMX := Lib.hid hmx
  have hmd2 : cap ≤ 9223372036854775807 := by unfold maxLen at hmx; exact hmx
  have hmd3 : cb ≤ 9223372036854775807 := by unfold maxLen at hmb; exact hmb
  clear hl hB hbs hmx hmb
  go_enter Try.func5, Try.ntmps5
  go_upto_region 1 with fail
  refine wp_at ?_
  intro W1 hW
  have x_W1 : Ext w W1 := by rw [hW]; repeat (first | exact ext_refl _ | assumption | refine ext_more' ?_ _ _ | refine ext_drew ?_ | refine ext_drewN ?_ _ | refine ext_alloc ?_ _)
  have hob := (has_old w).box (ext_refl _) (show 0 < (#[.int .i64 z.due, .int .i64 z.id] : Array Value).size from sz2 _ _) (by rw [hW]; repeat (first | exact ext_refl _ | assumption | refine ext_more' ?_ _ _ | refine ext_drew ?_ | refine ext_drewN ?_ _ | refine ext_alloc ?_ _) : Ext (World.alloc w (.cells _ _)) W1)
  clear hW
  obtain ⟨ob, hob2⟩ : ∃ ob, ob = w.heap.size := ⟨_, rfl⟩
  rw [← hob2] at hob ⊢
  have H1 := Lib.hid hob
  clear hob hob2 x_W1
  go_upto_region 2 with (go_at_call 11; refine (made07_calls s cap l _ (rows_on2 HLL.out (ext_trans (H1.out.oldAt 0 rfl) (by repeat (first | exact ext_refl _ | assumption | refine ext_more' ?_ _ _ | refine ext_drew ?_ | refine ext_drewN ?_ _ | refine ext_alloc ?_ _)))) hca HMX.out).mono ?_; intro e w2 hp1; obtain ⟨ha, ma, ra, tb, M, rfl, hth2, hh2⟩ := (H1.out.ext (by repeat (first | exact ext_refl _ | assumption | refine ext_more' ?_ _ _ | refine ext_drew ?_ | refine ext_drewN ?_ _ | refine ext_alloc ?_ _))).made hp1; have HT2 := Lib.hid hth2; have HQ2 := Lib.hid hh2; clear hp1 hth2 hh2)
  refine wp_at ?_
  intro W2 hW
  have x_W2 : Ext w2 W2 := by rw [hW]; repeat (first | exact ext_refl _ | assumption | refine ext_more' ?_ _ _ | refine ext_drew ?_ | refine ext_drewN ?_ _ | refine ext_alloc ?_ _)
  have H2 := Lib.hid (HQ2.out.ext x_W2)
  clear HQ2 x_W2 H1
  clear hW
  obtain ⟨S, hS⟩ : ∃ S, S = mkS l (min l.length 300) := ⟨_, rfl⟩
  rw [← hS] at H2 HT2
  have hSl := mkS_len l (min l.length 300)
  obtain ⟨hso, hsi⟩ := mkS_ok l (min l.length 300)
  rw [← hS] at hSl hso hsi
  have hS3 : S.length ≤ 300 := by omega
  have HSO := Lib.hid hso; have HSI := Lib.hid hsi
  clear hS hSl hso hsi
  go_upto_region 3 with (go_at_call 21; refine (new_ok 1000 _ (by decide) (by decide)).mono ?_; rintro e w3 ⟨hb, mb, rfl, ha1, hz1, hz2, hx1⟩; have H3q := Lib.hid ((H2.out.ext (by repeat (first | exact ext_refl _ | assumption | refine ext_more' ?_ _ _ | refine ext_drew ?_ | refine ext_drewN ?_ _ | refine ext_alloc ?_ _))).heapNew hx1 ha1 hz1 hz2); clear ha1 hz1 hz2 hx1)
  refine wp_at ?_
  intro W3 hW
  have x_W3 : Ext w3 W3 := by rw [hW]; repeat (first | exact ext_refl _ | assumption | refine ext_more' ?_ _ _ | refine ext_drew ?_ | refine ext_drewN ?_ _ | refine ext_alloc ?_ _)
  have hh := (H3q.out.ext x_W3)
  have H3 := Lib.hid hh
  clear hh H3q x_W3 H2
  clear hW
  by_cases h200 : 200 < l.length
  · have n200 : (200 : Int) < (l.length : Int) := by omega
    go_wp2_with (go_at_call 16; refine (awake07_calls _).mono ?_; rintro e wz ⟨rfl, hxa⟩; have HXA := Lib.hid hxa; clear hxa)
    go_ret
    exact ⟨rfl, ext_trans (H3.out.oldAt 0 rfl) (ext_trans (by repeat (first | exact ext_refl _ | assumption | refine ext_more' ?_ _ _ | refine ext_drew ?_ | refine ext_drewN ?_ _ | refine ext_alloc ?_ _)) HXA.out)⟩
  have n200 : ¬ ((200 : Int) < (l.length : Int)) := by omega
  go_upto_region 8 with (go_at_call 20; refine (all_calls ha ma _ _ _ _ ((H3.out.ext (by repeat (first | exact ext_refl _ | assumption | refine ext_more' ?_ _ _ | refine ext_drew ?_ | refine ext_drewN ?_ _ | refine ext_alloc ?_ _))).heapAt 2 rfl)).mono ?_; intro e wa hp; obtain ⟨ms9, cap9, rfl, hh⟩ := (H3.out.ext (by repeat (first | exact ext_refl _ | assumption | refine ext_more' ?_ _ _ | refine ext_drew ?_ | refine ext_drewN ?_ _ | refine ext_alloc ?_ _))).all hp; have HA9 := Lib.hid hh; clear hp hh)
  refine wp_at ?_
  intro W8 hW
  have x_W8 : Ext wa W8 := by rw [hW]; repeat (first | exact ext_refl _ | assumption | refine ext_more' ?_ _ _ | refine ext_drew ?_ | refine ext_drewN ?_ _ | refine ext_alloc ?_ _)
  have hh : Has W8 [oldR w, boxR ob #[.int .i64 z.due, .int .i64 z.id] (sz2 _ _), heapR ha ma ra S 1000, mapR tb .i64 M, heapR hb mb none [] 1000, tRow ms9 cap9 S] := HA9.out.ext x_W8
  have H8 := Lib.hid hh
  clear hh HA9 x_W8 H3
  clear hW
  clear n200 h200
  have hc9 := (tRow_cap H8.out 5 rfl).1
  go_upto_region 10 with fail
  go_loopg [13, 49] S.length (fun gk k13 k49 wr => ∃ (i : Nat) (T : List Tmr) (mt : Option Addr) (ct : Nat), k13 = .slice mt T.length ct ∧ k49 = .int .i64 i ∧ gk + i = S.length ∧ T.Perm (S.take i) ∧ Has wr [oldR w, boxR ob #[.int .i64 z.due, .int .i64 z.id] (sz2 _ _), heapR ha ma ra S 1000, mapR tb .i64 M, heapR hb mb none [] 1000, tRow ms9 cap9 S, tRow mt ct T])
  case atStart => exact ⟨0, [], none, 0, rfl, rfl, rfl, List.Perm.refl _, H8.out.row (by repeat (first | exact ext_refl _ | assumption | refine ext_more' ?_ _ _ | refine ext_drew ?_ | refine ext_drewN ?_ _ | refine ext_alloc ?_ _)) (own_none _ _ _ _)⟩
  case round =>
    obtain ⟨i, T, mt, ct, rfl, rfl, hgi, hpm, hh⟩ := hrel
    have HPM := Lib.hid hpm; have HH := Lib.hid hh
    have htl : T.length = min i S.length := by have := hpm.length_eq; rw [List.length_take] at this; exact this
    clear hpm hh
    by_cases hi : i < S.length
    rotate_left
    · have n1 : ¬ ((i : Int) < (S.length : Int)) := by omega
      have hil : i = S.length := by omega
      have hpt : T.Perm S := by have := HPM.out; rwa [hil, List.take_length] at this
      have HPT := Lib.hid hpt
      have HTL := Lib.hid hpt.length_eq
      have HIT := Lib.hid (HSI.out.perm hpt.symm)
      have hT3 : T.length ≤ 300 := by have := hpt.length_eq; omega
      clear hpt htl hil
      go_upto_region 17 with fail
      refine wp_at ?_
      intro W17 hW
      have x_W17 : Ext wr W17 := by rw [hW]; repeat (first | exact ext_refl _ | assumption | refine ext_more' ?_ _ _ | refine ext_drew ?_ | refine ext_drewN ?_ _ | refine ext_alloc ?_ _)
      have H17 := Lib.hid (HH.out.ext x_W17)
      clear x_W17
      clear hW
      obtain ⟨hv, hhv⟩ : ∃ hv, hv = (fnd z.id S).isSome := ⟨_, rfl⟩
      obtain ⟨dv, hdv⟩ : ∃ dv, dv = (((fnd z.id S).map fun t => (.int .i64 t.due : Value)).getD (.int .i64 0)) := ⟨_, rfl⟩
      have hlk := (run_mlook (P := Try.prog) Try.underlying25 Try.underlying3 (H17.out.mapAt 3 rfl) z.id (int0z8 W17)).2
      rw [HT2.out.1, ← hdv, Option.isSome_map, ← hhv] at hlk
      have HNO := Lib.hid (show hv = false → ∀ y ∈ S, y.id ≠ z.id from fun e => fnd_none.1 (by rw [hhv] at e; cases hq : fnd z.id S with
        | none => rfl
        | some a => rw [hq] at e; cases e))
      clear hdv hhv
      have kz := (H17.out.boxAt 1 rfl).1
      have fz := (H17.out.boxAt 1 rfl).2
      have lz := at_lt (H17.out.boxAt 1 rfl) (sz2 _ _)
      go_upto_region 19 with fail
      refine wp_at ?_
      intro W19 hW
      have x_W19 : Ext W17 W19 := by rw [hW]; repeat (first | exact ext_refl _ | assumption | refine ext_more' ?_ _ _ | refine ext_drew ?_ | refine ext_drewN ?_ _ | refine ext_alloc ?_ _)
      have H19 := Lib.hid (H17.out.ext x_W19)
      clear x_W19 kz fz lz hlk H17
      clear hW
      go_loopg [90] T.length (fun gk k90 wr => ∃ (j : Nat) (Sb : List Tmr) (rgb : Option Nat), k90 = .int .i64 j ∧ gk + j = T.length ∧ Sb.Perm (T.take j) ∧ Has wr [oldR w, boxR ob #[.int .i64 z.due, .int .i64 z.id] (sz2 _ _), heapR ha ma ra S 1000, mapR tb .i64 M, heapR hb mb rgb Sb 1000, tRow ms9 cap9 S, tRow mt ct T])
      case atStart => exact ⟨0, [], none, rfl, rfl, List.Perm.refl _, H19.out⟩
      case round =>
        obtain ⟨j, Sb, rgb, rfl, hgj, hpb, hh⟩ := hrel
        have HH2 := Lib.hid hh
        have hbl := hpb.length_eq
        rw [List.length_take] at hbl
        have HPB := Lib.hid hpb
        clear hh hpb
        by_cases hj : j < T.length
        rotate_left
        · have n1 : ¬ ((j : Int) < (T.length : Int)) := by omega
          have hSb : Sb = S := by
            have h1 : Sb.Perm T := by have := HPB.out; rwa [List.take_of_length_le (by omega)] at this
            exact srt_ext (HH2.out.heapAt 4 rfl).srt HSO.out (h1.trans HPT.out)
          subst hSb
          clear hbl HPB
          clear hgj
          go_upto_region 30 with fail
          refine wp_at ?_
          intro W30 hW
          have x_W30 : Ext wr W30 := by rw [hW]; repeat (first | exact ext_refl _ | assumption | refine ext_more' ?_ _ _ | refine ext_drew ?_ | refine ext_drewN ?_ _ | refine ext_alloc ?_ _)
          have hh := HH2.out.ext x_W30
          have H30 := Lib.hid hh
          clear x_W30 hh
          clear hW
          go_loopg [142] Sb.length (fun gk k142 wr => ∃ (k : Nat) (rga rgc : Option Nat), k142 = .int .i64 k ∧ gk + k = Sb.length ∧ Has wr [oldR w, boxR ob #[.int .i64 z.due, .int .i64 z.id] (sz2 _ _), heapR ha ma rga (Sb.drop k) 1000, mapR tb .i64 M, heapR hb mb rgc (Sb.drop k) 1000, tRow ms9 cap9 Sb, tRow mt ct T])
          case atStart => exact ⟨0, ra, rgb, rfl, rfl, H30.out⟩
          case round =>
            obtain ⟨k, rga, rgc, rfl, hgk, hh⟩ := hrel
            have HK := Lib.hid hh
            clear hh
            by_cases hk : k < Sb.length
            rotate_left
            · have n2 : ¬ ((k : Int) < (Sb.length : Int)) := by omega
              have hdk : Sb.drop k = [] := List.drop_eq_nil_of_le (by omega)
              rw [hdk] at HK
              clear hdk
              go_wp2_with fail
              go_at_call 15
              refine (len_calls ha ma _ ([] : List Tmr) 1000 _ (HK.out.heapAt 2 rfl)).mono ?_
              rw [show ((([] : List Tmr).length : Nat) : Int) = 0 from rfl]
              rintro e wl ⟨rfl, hx⟩
              have HKL := Lib.hid (HK.out.ext hx)
              clear hx HK
              go_wp2_with fail
              go_at_call 15
              refine (len_calls hb mb _ ([] : List Tmr) 1000 _ (HKL.out.heapAt 4 rfl)).mono ?_
              rw [show ((([] : List Tmr).length : Nat) : Int) = 0 from rfl]
              rintro e wm ⟨rfl, hx⟩
              have HKM := Lib.hid (HKL.out.ext hx)
              clear hx HKL
              go_wp2_with fail
              go_at_call 16
              refine (awake07_calls _).mono ?_
              rintro e wz ⟨rfl, hx⟩
              have HKN := Lib.hid (HKM.out.ext hx)
              clear hx HKM
              go_wp2
              go_ret
              exact ⟨rfl, HKN.out.oldAt 0 rfl⟩
            have n2 : (k : Int) < (Sb.length : Int) := by omega
            have hdk : Sb.drop k = at_ Sb k :: Sb.drop (k + 1) := by rw [List.drop_eq_getElem_cons hk, at_eq hk]
            obtain ⟨y, hy⟩ : ∃ y, y = at_ Sb k := ⟨_, rfl⟩
            rw [← hy] at hdk
            rw [hdk] at HK
            clear hy hdk
            obtain ⟨S2, hS2⟩ : ∃ S2, S2 = Sb.drop (k + 1) := ⟨_, rfl⟩
            rw [← hS2] at HK
            have HS2 := Lib.hid hS2
            clear hS2
            go_upto_region 32 with (go_at_call 13; refine (pop_calls ha ma _ (y :: S2) 1000 _ ((HK.out.ext (by repeat (first | exact ext_refl _ | assumption | refine ext_more' ?_ _ _ | refine ext_drew ?_ | refine ext_drewN ?_ _ | refine ext_alloc ?_ _))).heapAt 2 rfl)).mono ?_; rw [show otV (y :: S2 : List Tmr).head? = .tuple #[.agg #[.int .i64 y.due, .int .i64 y.id], .bool true] from rfl]; rintro e wp ⟨rfl, hp⟩; have HP := Lib.hid hp; clear hp)
            refine wp_at ?_
            intro W32 hW
            have x_W32 : Ext wp W32 := by rw [hW]; repeat (first | exact ext_refl _ | assumption | refine ext_more' ?_ _ _ | refine ext_drew ?_ | refine ext_drewN ?_ _ | refine ext_alloc ?_ _)
            obtain ⟨rg1, hh2⟩ := (HK.out.ext (by repeat (first | exact ext_refl _ | assumption | refine ext_more' ?_ _ _ | refine ext_drew ?_ | refine ext_drewN ?_ _ | refine ext_alloc ?_ _))).heap 2 rfl HP.out
            have hb2 := hh2.box (ext_refl _) (show 0 < (#[.int .i64 y.due, .int .i64 y.id] : Array Value).size from sz2 _ _) (by rw [hW]; repeat (first | exact ext_refl _ | assumption | refine ext_more' ?_ _ _ | refine ext_drew ?_ | refine ext_drewN ?_ _ | refine ext_alloc ?_ _) : Ext (World.alloc wp (.cells _ _)) W32)
            have H32 := Lib.hid hb2
            clear hh2 hb2 HP x_W32
            clear hW
            go_upto_region 33 with (go_at_call 13; refine (pop_calls hb mb _ (y :: S2) 1000 _ ((H32.out.ext (by repeat (first | exact ext_refl _ | assumption | refine ext_more' ?_ _ _ | refine ext_drew ?_ | refine ext_drewN ?_ _ | refine ext_alloc ?_ _))).heapAt 4 rfl)).mono ?_; rw [show otV (y :: S2 : List Tmr).head? = .tuple #[.agg #[.int .i64 y.due, .int .i64 y.id], .bool true] from rfl]; rintro e wp2 ⟨rfl, hp⟩; have HP := Lib.hid hp; clear hp)
            refine wp_at ?_
            intro W33 hW
            have x_W33 : Ext wp2 W33 := by rw [hW]; repeat (first | exact ext_refl _ | assumption | refine ext_more' ?_ _ _ | refine ext_drew ?_ | refine ext_drewN ?_ _ | refine ext_alloc ?_ _)
            obtain ⟨rg2, hh2⟩ := (H32.out.ext (by repeat (first | exact ext_refl _ | assumption | refine ext_more' ?_ _ _ | refine ext_drew ?_ | refine ext_drewN ?_ _ | refine ext_alloc ?_ _))).heap 4 rfl HP.out
            have hb2 := hh2.box (ext_refl _) (show 0 < (#[.int .i64 y.due, .int .i64 y.id] : Array Value).size from sz2 _ _) (by rw [hW]; repeat (first | exact ext_refl _ | assumption | refine ext_more' ?_ _ _ | refine ext_drew ?_ | refine ext_drewN ?_ _ | refine ext_alloc ?_ _) : Ext (World.alloc wp2 (.cells _ _)) W33)
            have H33 := Lib.hid hb2
            clear hh2 hb2 HP x_W33 H32
            clear hW
            have ka := (H33.out.boxAt 7 rfl).1
            have fa := (H33.out.boxAt 7 rfl).2
            have la := at_lt (H33.out.boxAt 7 rfl) (sz2 _ _)
            have kb := (H33.out.boxAt 8 rfl).1
            have fb := (H33.out.boxAt 8 rfl).2
            have lb := at_lt (H33.out.boxAt 8 rfl) (sz2 _ _)
            go_upto_region 35 with fail
            refine wp_at ?_
            intro W35 hW
            have x_W35 : Ext W33 W35 := by rw [hW]; repeat (first | exact ext_refl _ | assumption | refine ext_more' ?_ _ _ | refine ext_drew ?_ | refine ext_drewN ?_ _ | refine ext_alloc ?_ _)
            have hh := ((H33.out.ext x_W35).del 8).del 7
            have H35 := Lib.hid hh
            clear hh x_W35 H33 ka fa la kb fb lb
            clear hW
            rw [HS2.out] at H35
            go_wp2
            go_roundg (gk - 1)
            case measure => omega
            case rel => exact ⟨k + 1, _, _, by go_num, by omega, H35.out⟩
        have n1 : (j : Int) < (T.length : Int) := by omega
        have n0 : (0 : Int) ≤ (j : Int) := by omega
        have hsb3 : Sb.length ≤ 300 := by omega
        clear hbl
        obtain ⟨x, hx⟩ : ∃ x, x = at_ T j := ⟨_, rfl⟩
        have HXX := Lib.hid hx
        have HPJ := Lib.hid (show (x :: Sb).Perm (T.take (j + 1)) by rw [hx]; exact take_succ_perm HPB.out hj)
        have HIX := Lib.hid (show Ids (x :: Sb) from Ids.perm (List.Nodup.sublist ((List.take_sublist _ _).map _) HIT.out : Ids (T.take (j + 1))) HPJ.out.symm)
        have HXN := Lib.hid (show ∀ y ∈ Sb, y.id ≠ x.id from fun y hy e => (List.nodup_cons.1 HIX.out).1 (by show x.id ∈ _; rw [← e]; exact List.mem_map_of_mem (f := fun x : Tmr => x.id) hy))
        have HNB := Lib.hid (show hv = false → ∀ y ∈ x :: Sb, y.id ≠ z.id from fun e y hy => HNO.out e y (HPT.out.subset ((List.take_sublist _ _).subset (HPJ.out.subset hy))))
        have hct := (tRow_cap HH2.out 6 rfl).1
        clear hx
        go_upto_region 21 with fail
        refine wp_at ?_
        intro W21 hW
        have x_W21 : Ext wr W21 := by rw [hW]; repeat (first | exact ext_refl _ | assumption | refine ext_more' ?_ _ _ | refine ext_drew ?_ | refine ext_drewN ?_ _ | refine ext_alloc ?_ _)
        have H21 := Lib.hid (HH2.out.ext x_W21)
        clear x_W21
        clear hW
        cases hv with
        | false =>
          have HPN := Lib.hid ((rndS_perm (z := z) (has := false) HIX.out HNB.out).trans HPJ.out)
          have hz1 : fnd z.id Sb = none := fnd_none.2 fun y hy => HNB.out rfl y (List.mem_cons_of_mem _ hy)
          have HE1 := Lib.hid (show putE Sb 1000 z = 0 by unfold putE; rw [hz1, if_neg (by simp), if_neg (by omega)])
          have HS1 := Lib.hid (show putS Sb 1000 z = ins z Sb by unfold putS; rw [HE1.out]; rfl)
          have hz2 : fnd x.id (ins z Sb) = none := by
            rw [fnd_none]
            intro y hy
            rcases List.mem_cons.1 ((ins_perm _ _).subset hy) with rfl | hy
            · exact fun e => HNB.out rfl x List.mem_cons_self e.symm
            · exact HXN.out y hy
          have HE2 := Lib.hid (show putE (ins z Sb) 1000 x = 0 by unfold putE; rw [hz2, if_neg (by simp), ins_length, if_neg (by omega)])
          have HS2 := Lib.hid (show putS (ins z Sb) 1000 x = ins x (ins z Sb) by unfold putS; rw [HE2.out]; rfl)
          have HF3 := Lib.hid (show fnd z.id (ins x (ins z Sb)) = some z from by
            have hi1 := ids_ins (HH2.out.heapAt 4 rfl).ids (fnd_none.1 hz1)
            exact fnd_some (ids_ins hi1 (fnd_none.1 hz2)) ((ins_perm _ _).symm.subset (List.mem_cons_of_mem _ ((ins_perm _ _).symm.subset List.mem_cons_self))) rfl)
          have HRS := Lib.hid (show wo z.id (ins x (ins z Sb)) = rndS z false Sb x from rfl)
          clear hz1 hz2
          have kz := (H21.out.boxAt 1 rfl).1
          have fz := (H21.out.boxAt 1 rfl).2
          have lz := at_lt (H21.out.boxAt 1 rfl) (sz2 _ _)
          go_wp2_with fail
          go_at_call 22
          refine (put_calls z hb mb _ Sb 1000 _ (H21.out.heapAt 4 rfl)).mono ?_
          rw [HE1.out, HS1.out]
          rintro e wq ⟨rfl, hp⟩
          obtain ⟨rg1, hh1⟩ := H21.out.heap 4 rfl hp
          have HQ1 := Lib.hid hh1
          clear hp hh1 kz fz lz
          obtain ⟨bl, ol, em, ql, c0, c1⟩ := tmr_cells (V := fun i => at_ T i) (tRow_rows HQ1.out 6 rfl) (ext_refl wq) hj
          (first | (injection em with em; injection em with em1 em2; subst em1 em2) | (subst em))
          rw [← HXX.out] at c0 c1
          go_upto_region 23 with (go_at_call 22; refine (put_calls x hb mb _ (ins z Sb) 1000 _ ((HQ1.out.ext (by repeat (first | exact ext_refl _ | assumption | refine ext_more' ?_ _ _ | refine ext_drew ?_ | refine ext_drewN ?_ _ | refine ext_alloc ?_ _))).heapAt 4 rfl)).mono ?_; rw [HE2.out, HS2.out]; rintro e wq2 ⟨rfl, hp⟩; have HP := Lib.hid hp; clear hp)
          refine wp_at ?_
          intro W23 hW
          have x_W23 : Ext wq2 W23 := by rw [hW]; repeat (first | exact ext_refl _ | assumption | refine ext_more' ?_ _ _ | refine ext_drew ?_ | refine ext_drewN ?_ _ | refine ext_alloc ?_ _)
          obtain ⟨rg2, hh2⟩ := (HQ1.out.ext (by repeat (first | exact ext_refl _ | assumption | refine ext_more' ?_ _ _ | refine ext_drew ?_ | refine ext_drewN ?_ _ | refine ext_alloc ?_ _))).heap 4 rfl HP.out
          have hh : Has W23 [oldR w, boxR ob #[.int .i64 z.due, .int .i64 z.id] (sz2 _ _), heapR ha ma ra S 1000, mapR tb .i64 M, heapR hb mb rg2 (ins x (ins z Sb)) 1000, tRow ms9 cap9 S, tRow (some ⟨bl, ol, none⟩) ct T] := hh2.ext x_W23
          have H23 := Lib.hid hh
          clear hh hh2 HP HQ1 x_W23 c0 c1 ql H21
          clear hW
          have kz := (H23.out.boxAt 1 rfl).1
          have fz := (H23.out.boxAt 1 rfl).2
          have lz := at_lt (H23.out.boxAt 1 rfl) (sz2 _ _)
          go_upto_region 24 with (go_at_call 12; refine (drop_calls z.id hb mb _ (ins x (ins z Sb)) 1000 _ ((H23.out.ext (by repeat (first | exact ext_refl _ | assumption | refine ext_more' ?_ _ _ | refine ext_drew ?_ | refine ext_drewN ?_ _ | refine ext_alloc ?_ _))).heapAt 4 rfl)).mono ?_; rw [show drV (fnd z.id (ins x (ins z Sb))) = .tuple #[.agg #[.int .i64 z.due, .int .i64 z.id], .int .i64 0] by rw [HF3.out]; rfl]; rintro e wd ⟨rfl, hp⟩; have HP := Lib.hid hp; clear hp)
          refine wp_at ?_
          intro W24 hW
          have x_W24 : Ext wd W24 := by rw [hW]; repeat (first | exact ext_refl _ | assumption | refine ext_more' ?_ _ _ | refine ext_drew ?_ | refine ext_drewN ?_ _ | refine ext_alloc ?_ _)
          obtain ⟨rg3, hh2⟩ := (H23.out.ext (by repeat (first | exact ext_refl _ | assumption | refine ext_more' ?_ _ _ | refine ext_drew ?_ | refine ext_drewN ?_ _ | refine ext_alloc ?_ _))).heap 4 rfl HP.out
          have hb2 := hh2.box (ext_refl _) (show 0 < (#[.int .i64 z.due, .int .i64 z.id] : Array Value).size from sz2 _ _) (by rw [hW]; repeat (first | exact ext_refl _ | assumption | refine ext_more' ?_ _ _ | refine ext_drew ?_ | refine ext_drewN ?_ _ | refine ext_alloc ?_ _) : Ext (World.alloc wd (.cells _ _)) W24)
          have hh : Has W24 [oldR w, boxR ob #[.int .i64 z.due, .int .i64 z.id] (sz2 _ _), heapR ha ma ra S 1000, mapR tb .i64 M, heapR hb mb rg3 (wo z.id (ins x (ins z Sb))) 1000, tRow ms9 cap9 S, tRow (some ⟨bl, ol, none⟩) ct T, boxR wd.heap.size #[.int .i64 z.due, .int .i64 z.id] (sz2 _ _)] := hb2
          have H24 := Lib.hid hh
          clear hh hh2 hb2 HP x_W24 kz fz lz H23
          clear hW
          have ky := (H24.out.boxAt 7 rfl).1
          have fy := (H24.out.boxAt 7 rfl).2
          have ly := at_lt (H24.out.boxAt 7 rfl) (sz2 _ _)
          have kz := (H24.out.boxAt 1 rfl).1
          have fz := (H24.out.boxAt 1 rfl).2
          have lz := at_lt (H24.out.boxAt 1 rfl) (sz2 _ _)
          go_upto_region 28 with fail
          refine wp_at ?_
          intro W28 hW
          have x_W28 : Ext W24 W28 := by rw [hW]; repeat (first | exact ext_refl _ | assumption | refine ext_more' ?_ _ _ | refine ext_drew ?_ | refine ext_drewN ?_ _ | refine ext_alloc ?_ _)
          have H28 := Lib.hid ((H24.out.ext x_W28).del 7)
          clear x_W28 H24 ky fy ly kz fz lz
          clear hW
          have hh : Has W28 [oldR w, boxR ob #[.int .i64 z.due, .int .i64 z.id] (sz2 _ _), heapR ha ma ra S 1000, mapR tb .i64 M, heapR hb mb rg3 (rndS z false Sb x) 1000, tRow ms9 cap9 S, tRow (some ⟨bl, ol, none⟩) ct T] := by rw [← HRS.out]; exact H28.out
          have H28b := Lib.hid hh
          clear hh H28
          go_wp2
          go_roundg (gk - 1)
          case measure => omega
          case rel => exact ⟨j + 1, _, _, by go_num, by omega, HPN.out, H28b.out⟩
        | true =>
          cases hf3 : fnd z.id (ins x Sb) with
          | none =>
            have HF3 := Lib.hid hf3
            clear hf3
            have HPN := Lib.hid ((rndS_perm (z := z) (has := true) HIX.out HNB.out).trans HPJ.out)
            have hz1 : fnd x.id Sb = none := fnd_none.2 HXN.out
            have HE2 := Lib.hid (show putE Sb 1000 x = 0 by unfold putE; rw [hz1, if_neg (by simp), if_neg (by omega)])
            have HS2 := Lib.hid (show putS Sb 1000 x = ins x Sb by unfold putS; rw [HE2.out]; rfl)
            clear hz1
            obtain ⟨bl, ol, em, ql, c0, c1⟩ := tmr_cells (V := fun i => at_ T i) (tRow_rows H21.out 6 rfl) (ext_refl W21) hj
            (first | (injection em with em; injection em with em1 em2; subst em1 em2) | (subst em))
            rw [← HXX.out] at c0 c1
            go_upto_region 23 with (go_at_call 22; refine (put_calls x hb mb _ Sb 1000 _ ((H21.out.ext (by repeat (first | exact ext_refl _ | assumption | refine ext_more' ?_ _ _ | refine ext_drew ?_ | refine ext_drewN ?_ _ | refine ext_alloc ?_ _))).heapAt 4 rfl)).mono ?_; rw [HE2.out, HS2.out]; rintro e wq2 ⟨rfl, hp⟩; have HP := Lib.hid hp; clear hp)
            refine wp_at ?_
            intro W23 hW
            have x_W23 : Ext wq2 W23 := by rw [hW]; repeat (first | exact ext_refl _ | assumption | refine ext_more' ?_ _ _ | refine ext_drew ?_ | refine ext_drewN ?_ _ | refine ext_alloc ?_ _)
            obtain ⟨rg2, hh2⟩ := (H21.out.ext (by repeat (first | exact ext_refl _ | assumption | refine ext_more' ?_ _ _ | refine ext_drew ?_ | refine ext_drewN ?_ _ | refine ext_alloc ?_ _))).heap 4 rfl HP.out
            have hh : Has W23 [oldR w, boxR ob #[.int .i64 z.due, .int .i64 z.id] (sz2 _ _), heapR ha ma ra S 1000, mapR tb .i64 M, heapR hb mb rg2 (ins x Sb) 1000, tRow ms9 cap9 S, tRow (some ⟨bl, ol, none⟩) ct T] := hh2.ext x_W23
            have H23 := Lib.hid hh
            clear hh hh2 HP x_W23 c0 c1 ql H21
            clear hW
            have kz := (H23.out.boxAt 1 rfl).1
            have fz := (H23.out.boxAt 1 rfl).2
            have lz := at_lt (H23.out.boxAt 1 rfl) (sz2 _ _)
            go_upto_region 24 with (go_at_call 12; refine (drop_calls z.id hb mb _ (ins x Sb) 1000 _ ((H23.out.ext (by repeat (first | exact ext_refl _ | assumption | refine ext_more' ?_ _ _ | refine ext_drew ?_ | refine ext_drewN ?_ _ | refine ext_alloc ?_ _))).heapAt 4 rfl)).mono ?_; rw [show drV (fnd z.id (ins x Sb)) = .tuple #[.agg #[.int .i64 0, .int .i64 0], .int .i64 40] by rw [HF3.out]; rfl]; rintro e wd ⟨rfl, hp⟩; have HP := Lib.hid hp; clear hp)
            refine wp_at ?_
            intro W24 hW
            have x_W24 : Ext wd W24 := by rw [hW]; repeat (first | exact ext_refl _ | assumption | refine ext_more' ?_ _ _ | refine ext_drew ?_ | refine ext_drewN ?_ _ | refine ext_alloc ?_ _)
            obtain ⟨rg3, hh2⟩ := (H23.out.ext (by repeat (first | exact ext_refl _ | assumption | refine ext_more' ?_ _ _ | refine ext_drew ?_ | refine ext_drewN ?_ _ | refine ext_alloc ?_ _))).heap 4 rfl HP.out
            have hb2 := hh2.box (ext_refl _) (show 0 < (#[.int .i64 0, .int .i64 0] : Array Value).size from sz2 _ _) (by rw [hW]; repeat (first | exact ext_refl _ | assumption | refine ext_more' ?_ _ _ | refine ext_drew ?_ | refine ext_drewN ?_ _ | refine ext_alloc ?_ _) : Ext (World.alloc wd (.cells _ _)) W24)
            have hh : Has W24 [oldR w, boxR ob #[.int .i64 z.due, .int .i64 z.id] (sz2 _ _), heapR ha ma ra S 1000, mapR tb .i64 M, heapR hb mb rg3 (wo z.id (ins x Sb)) 1000, tRow ms9 cap9 S, tRow (some ⟨bl, ol, none⟩) ct T, boxR wd.heap.size #[.int .i64 0, .int .i64 0] (sz2 _ _)] := hb2
            have H24 := Lib.hid hh
            clear hh hh2 hb2 HP x_W24 kz fz lz H23
            clear hW
            have ky := (H24.out.boxAt 7 rfl).1
            have fy := (H24.out.boxAt 7 rfl).2
            have ly := at_lt (H24.out.boxAt 7 rfl) (sz2 _ _)
            go_upto_region 28 with fail
            refine wp_at ?_
            intro W28 hW
            have x_W28 : Ext W24 W28 := by rw [hW]; repeat (first | exact ext_refl _ | assumption | refine ext_more' ?_ _ _ | refine ext_drew ?_ | refine ext_drewN ?_ _ | refine ext_alloc ?_ _)
            have H28 := Lib.hid ((H24.out.ext x_W28).del 7)
            clear x_W28 H24 ky fy ly
            clear hW
            have HRS := Lib.hid (show wo z.id (ins x Sb) = rndS z true Sb x by unfold rndS; rw [if_pos rfl, HF3.out]; exact wo_none (fnd_none.1 HF3.out))
            have hh : Has W28 [oldR w, boxR ob #[.int .i64 z.due, .int .i64 z.id] (sz2 _ _), heapR ha ma ra S 1000, mapR tb .i64 M, heapR hb mb rg3 (rndS z true Sb x) 1000, tRow ms9 cap9 S, tRow (some ⟨bl, ol, none⟩) ct T] := by rw [← HRS.out]; exact H28.out
            have H28b := Lib.hid hh
            clear hh H28
            go_wp2
            go_roundg (gk - 1)
            case measure => omega
            case rel => exact ⟨j + 1, _, _, by go_num, by omega, HPN.out, H28b.out⟩
          | some u =>
            have HF3 := Lib.hid hf3
            clear hf3
            have HPN := Lib.hid ((rndS_perm (z := z) (has := true) HIX.out HNB.out).trans HPJ.out)
            have hz1 : fnd x.id Sb = none := fnd_none.2 HXN.out
            have HE2 := Lib.hid (show putE Sb 1000 x = 0 by unfold putE; rw [hz1, if_neg (by simp), if_neg (by omega)])
            have HS2 := Lib.hid (show putS Sb 1000 x = ins x Sb by unfold putS; rw [HE2.out]; rfl)
            clear hz1
            obtain ⟨bl, ol, em, ql, c0, c1⟩ := tmr_cells (V := fun i => at_ T i) (tRow_rows H21.out 6 rfl) (ext_refl W21) hj
            (first | (injection em with em; injection em with em1 em2; subst em1 em2) | (subst em))
            rw [← HXX.out] at c0 c1
            go_upto_region 23 with (go_at_call 22; refine (put_calls x hb mb _ Sb 1000 _ ((H21.out.ext (by repeat (first | exact ext_refl _ | assumption | refine ext_more' ?_ _ _ | refine ext_drew ?_ | refine ext_drewN ?_ _ | refine ext_alloc ?_ _))).heapAt 4 rfl)).mono ?_; rw [HE2.out, HS2.out]; rintro e wq2 ⟨rfl, hp⟩; have HP := Lib.hid hp; clear hp)
            refine wp_at ?_
            intro W23 hW
            have x_W23 : Ext wq2 W23 := by rw [hW]; repeat (first | exact ext_refl _ | assumption | refine ext_more' ?_ _ _ | refine ext_drew ?_ | refine ext_drewN ?_ _ | refine ext_alloc ?_ _)
            obtain ⟨rg2, hh2⟩ := (H21.out.ext (by repeat (first | exact ext_refl _ | assumption | refine ext_more' ?_ _ _ | refine ext_drew ?_ | refine ext_drewN ?_ _ | refine ext_alloc ?_ _))).heap 4 rfl HP.out
            have hh : Has W23 [oldR w, boxR ob #[.int .i64 z.due, .int .i64 z.id] (sz2 _ _), heapR ha ma ra S 1000, mapR tb .i64 M, heapR hb mb rg2 (ins x Sb) 1000, tRow ms9 cap9 S, tRow (some ⟨bl, ol, none⟩) ct T] := hh2.ext x_W23
            have H23 := Lib.hid hh
            clear hh hh2 HP x_W23 c0 c1 ql H21
            clear hW
            have huid := (fnd_mem HF3.out).2
            have HUI := Lib.hid huid
            clear huid
            have kz := (H23.out.boxAt 1 rfl).1
            have fz := (H23.out.boxAt 1 rfl).2
            have lz := at_lt (H23.out.boxAt 1 rfl) (sz2 _ _)
            go_upto_region 24 with (go_at_call 12; refine (drop_calls z.id hb mb _ (ins x Sb) 1000 _ ((H23.out.ext (by repeat (first | exact ext_refl _ | assumption | refine ext_more' ?_ _ _ | refine ext_drew ?_ | refine ext_drewN ?_ _ | refine ext_alloc ?_ _))).heapAt 4 rfl)).mono ?_; rw [show drV (fnd z.id (ins x Sb)) = .tuple #[.agg #[.int .i64 u.due, .int .i64 u.id], .int .i64 0] by rw [HF3.out]; rfl]; rintro e wd ⟨rfl, hp⟩; have HP := Lib.hid hp; clear hp)
            refine wp_at ?_
            intro W24 hW
            have x_W24 : Ext wd W24 := by rw [hW]; repeat (first | exact ext_refl _ | assumption | refine ext_more' ?_ _ _ | refine ext_drew ?_ | refine ext_drewN ?_ _ | refine ext_alloc ?_ _)
            obtain ⟨rg3, hh2⟩ := (H23.out.ext (by repeat (first | exact ext_refl _ | assumption | refine ext_more' ?_ _ _ | refine ext_drew ?_ | refine ext_drewN ?_ _ | refine ext_alloc ?_ _))).heap 4 rfl HP.out
            have hb2 := hh2.box (ext_refl _) (show 0 < (#[.int .i64 u.due, .int .i64 u.id] : Array Value).size from sz2 _ _) (by rw [hW]; repeat (first | exact ext_refl _ | assumption | refine ext_more' ?_ _ _ | refine ext_drew ?_ | refine ext_drewN ?_ _ | refine ext_alloc ?_ _) : Ext (World.alloc wd (.cells _ _)) W24)
            have hh : Has W24 [oldR w, boxR ob #[.int .i64 z.due, .int .i64 z.id] (sz2 _ _), heapR ha ma ra S 1000, mapR tb .i64 M, heapR hb mb rg3 (wo z.id (ins x Sb)) 1000, tRow ms9 cap9 S, tRow (some ⟨bl, ol, none⟩) ct T, boxR wd.heap.size #[.int .i64 u.due, .int .i64 u.id] (sz2 _ _)] := hb2
            have H24 := Lib.hid hh
            clear hh hh2 hb2 HP x_W24 kz fz lz H23
            clear hW
            have ky := (H24.out.boxAt 7 rfl).1
            have fy := (H24.out.boxAt 7 rfl).2
            have ly := at_lt (H24.out.boxAt 7 rfl) (sz2 _ _)
            have hz4 : fnd u.id (wo z.id (ins x Sb)) = none := by rw [HUI.out, fnd_wo, if_pos rfl]
            have hlw := wo_length_le z.id (ins x Sb)
            rw [ins_length] at hlw
            have HE4 := Lib.hid (show putE (wo z.id (ins x Sb)) 1000 u = 0 by unfold putE; rw [hz4, if_neg (by simp), if_neg (by omega)])
            have HS4 := Lib.hid (show putS (wo z.id (ins x Sb)) 1000 u = ins u (wo z.id (ins x Sb)) by unfold putS; rw [HE4.out]; rfl)
            have HRS := Lib.hid (show ins u (wo z.id (ins x Sb)) = rndS z true Sb x by unfold rndS; rw [if_pos rfl, HF3.out])
            clear hz4 hlw
            go_upto_region 28 with (go_at_call 22; refine (put_calls u hb mb _ (wo z.id (ins x Sb)) 1000 _ ((H24.out.ext (by repeat (first | exact ext_refl _ | assumption | refine ext_more' ?_ _ _ | refine ext_drew ?_ | refine ext_drewN ?_ _ | refine ext_alloc ?_ _))).heapAt 4 rfl)).mono ?_; rw [HE4.out, HS4.out]; rintro e wq3 ⟨rfl, hp⟩; have HP := Lib.hid hp; clear hp)
            refine wp_at ?_
            intro W28 hW
            have x_W28 : Ext wq3 W28 := by rw [hW]; repeat (first | exact ext_refl _ | assumption | refine ext_more' ?_ _ _ | refine ext_drew ?_ | refine ext_drewN ?_ _ | refine ext_alloc ?_ _)
            obtain ⟨rg4, hh2⟩ := (H24.out.ext (by repeat (first | exact ext_refl _ | assumption | refine ext_more' ?_ _ _ | refine ext_drew ?_ | refine ext_drewN ?_ _ | refine ext_alloc ?_ _))).heap 4 rfl HP.out
            have hh := (hh2.ext x_W28).del 7
            have H28 := Lib.hid hh
            clear hh hh2 HP x_W28 H24 ky fy ly
            clear hW
            have hh : Has W28 [oldR w, boxR ob #[.int .i64 z.due, .int .i64 z.id] (sz2 _ _), heapR ha ma ra S 1000, mapR tb .i64 M, heapR hb mb rg4 (rndS z true Sb x) 1000, tRow ms9 cap9 S, tRow (some ⟨bl, ol, none⟩) ct T] := by rw [← HRS.out]; exact H28.out
            have H28b := Lib.hid hh
            clear hh H28
            go_wp2
            go_roundg (gk - 1)
            case measure => omega
            case rel => exact ⟨j + 1, _, _, by go_num, by omega, HPN.out, H28b.out⟩
    have n1 : (i : Int) < (S.length : Int) := by omega
    have n0 : (0 : Int) ≤ (i : Int) := by omega
    have HTI := Lib.hid (show T.length = i by omega)
    have htc := (tRow_cap HH.out 6 rfl).1
    have hT3 : T.length ≤ 300 := by omega
    clear htl
    by_cases hib : i < B.length
    · have n2 : (i : Int) < (B.length : Int) := by omega
      have n3 : (0 : Int) ≤ (T.length : Int) := by omega
      have n4 : (T.length : Int) ≤ 300 := by omega
      obtain ⟨b2, o2, rfl, q2, d0⟩ := byt_cell (V := fun i => B.getD i 0) HBB.out (HH.out.oldAt 0 rfl) hib
      obtain ⟨hb0, hb1⟩ := HBS.out i hib
      obtain ⟨bv, hbv⟩ : ∃ bv, bv = B.getD i 0 := ⟨_, rfl⟩
      rw [← hbv] at d0 hb0 hb1
      clear hbv
      go_upto_region 15 with fail
      refine wp_at ?_
      intro W15 hW
      have x_W15 : Ext wr W15 := by rw [hW]; repeat (first | exact ext_refl _ | assumption | refine ext_more' ?_ _ _ | refine ext_drew ?_ | refine ext_drewN ?_ _ | refine ext_alloc ?_ _)
      have H15 := Lib.hid (HH.out.ext x_W15)
      clear x_W15 d0 q2
      clear hW
      have hbm1 := Int.emod_nonneg bv (show (T.length : Int) + 1 ≠ 0 by omega)
      have hbm2 := Int.emod_lt_of_pos bv (show (0 : Int) < (T.length : Int) + 1 by omega)
      obtain ⟨q, hq⟩ : ∃ q : Nat, bv % ((T.length : Int) + 1) = (q : Int) := ⟨(bv % ((T.length : Int) + 1)).toNat, by omega⟩
      have hqT : q ≤ T.length := by omega
      have hqT2 : (q : Int) ≤ (T.length : Int) := by omega
      have hqc : (q : Int) ≤ (ct : Int) := by omega
      have hq0 : (0 : Int) ≤ (q : Int) := by omega
      rw [hq]
      clear hq hbm1 hbm2
      obtain ⟨bl, ol, em, ql, c0, c1⟩ := tmr_cells (V := fun i => at_ S i) (tRow_rows H15.out 5 rfl) (ext_refl W15) hi
      have q1 : bl < W15.heap.size := ql
      subst em
      obtain ⟨x, hx⟩ : ∃ x, x = at_ S i := ⟨_, rfl⟩
      rw [← hx] at c0 c1
      have HXX := Lib.hid hx
      clear hx ql
      have HL1 := Lib.hid (show (T.take q).length = q by rw [List.length_take]; omega)
      have HL3 := Lib.hid (show (T.drop q).length = T.length - q by exact List.length_drop ..)
      have HB4 := Lib.hid (show ([] : List Tmr).length + (T.take q).length ≤ 1000000 by rw [HL1.out]; simp only [List.length_nil]; omega)
      have HB10 := Lib.hid (show (([] : List Tmr) ++ (T.take q)).length + [x].length ≤ 1000000 by rw [List.nil_append, HL1.out]; simp only [List.length_cons, List.length_nil]; omega)
      have HB14 := Lib.hid (show (([] : List Tmr) ++ (T.take q) ++ [x]).length + (T.drop q).length ≤ 1000000 by rw [List.nil_append, List.length_append, HL1.out, HL3.out]; simp only [List.length_cons, List.length_nil]; omega)
      have RW1 := Lib.hid (fun (w' : World) (h : Has w' [oldR w, boxR ob #[.int .i64 z.due, .int .i64 z.id] (sz2 _ _), heapR ha ma ra S 1000, mapR tb .i64 M, heapR hb mb none [] 1000, tRow (some ⟨bl, ol, none⟩) cap9 S, tRow mt ct T]) => rows_sub (tRow_rows h 6 rfl) q (by omega))
      have RW3 := Lib.hid (fun (w' : World) (h : Has w' [oldR w, boxR ob #[.int .i64 z.due, .int .i64 z.id] (sz2 _ _), heapR ha ma ra S 1000, mapR tb .i64 M, heapR hb mb none [] 1000, tRow (some ⟨bl, ol, none⟩) cap9 S, tRow mt ct T]) => rows_from (tRow_rows h 6 rfl) q ct (by omega) htc)
      have HPN := Lib.hid (show (([] : List Tmr) ++ (T.take q) ++ [x] ++ (T.drop q)).Perm (S.take (i + 1)) by
        have := perm_put (q := q) HPM.out hi
        rw [← HXX.out] at this
        rw [List.nil_append]; exact this)
      refine wp_region_held_drew (S := fun w' => Ext W15 w') (by kernel_rfl) (ext_drew (ext_refl _)) (fun hHeld => ?_)
      refine wpAnyH_take' (i := 1) (v := ?v1_835) (some 66) rfl rfl (by kernel_rfl) (by kernel_rfl) (by kernel_rfl) (fun _ _ _ h => h) (Or.inl ⟨by kernel_rfl, ?y1_835⟩) (hHeld) ?_
      case y1_835 =>
        intro w' hSw
        go_simp
        try with_reducible rfl
      refine wpAnyH_take' (i := 2) (v := ?v2_836) (some 67) rfl rfl (by kernel_rfl) (by kernel_rfl) (by kernel_rfl) (fun _ _ _ h => h) (Or.inl ⟨by kernel_rfl, ?y2_836⟩) (hHeld) ?_
      case y2_836 =>
        intro w' hSw
        go_simp
        try with_reducible rfl
      refine wpAnyH_take' (i := 3) (v := ?v3_837) (some 68) rfl rfl (by kernel_rfl) (by kernel_rfl) (by kernel_rfl) (fun _ _ _ h => h) (Or.inl ⟨by kernel_rfl, ?y3_837⟩) (hHeld) ?_
      case y3_837 =>
        intro w' hSw
        go_simp
        try with_reducible rfl
      refine wpAnyH_take' (i := 5) (v := ?v5_838) (some 70) rfl rfl (by kernel_rfl) (by kernel_rfl) (by kernel_rfl) (fun _ _ _ h => h) (Or.inl ⟨by kernel_rfl, ?y5_838⟩) (hHeld) ?_
      case y5_838 =>
        intro w' hSw
        go_simp
        try with_reducible rfl
      refine wpAnyH_take' (i := 6) (v := ?v6_839) (some 71) rfl rfl (by kernel_rfl) (by kernel_rfl) (by kernel_rfl) (fun _ _ _ h => h) (Or.inl ⟨by kernel_rfl, ?y6_839⟩) (hHeld) ?_
      case y6_839 =>
        intro w' hSw
        go_simp
        try with_reducible rfl
      refine wpAnyH_take' (i := 7) (v := ?v7_840) (some 72) rfl rfl (by kernel_rfl) (by kernel_rfl) (by kernel_rfl) (fun _ _ _ h => h) (Or.inl ⟨by kernel_rfl, ?y7_840⟩) (hHeld) ?_
      case y7_840 =>
        intro w' hSw
        go_simp
        try with_reducible rfl
      refine wpAnyH_take' (i := 8) (v := ?v8_841) (some 73) rfl rfl (by kernel_rfl) (by kernel_rfl) (by kernel_rfl) (fun _ _ _ h => h) (Or.inl ⟨by kernel_rfl, ?y8_841⟩) (hHeld) ?_
      case y8_841 =>
        intro w' hSw
        have c0' := (hSw.cell (p := ⟨bl, ol + i * 2, none⟩) q1).trans c0; have c1' := (hSw.cell (p := ⟨bl, ol + i * 2 + 1, none⟩) q1).trans c1; go_simp
        try with_reducible rfl
      refine wpAnyH_take' (i := 11) (v := ?v11_842) (some 76) rfl rfl (by kernel_rfl) (by kernel_rfl) (by kernel_rfl) (fun _ _ _ h => h) (Or.inl ⟨by kernel_rfl, ?y11_842⟩) (hHeld) ?_
      case y11_842 =>
        intro w' hSw
        go_simp
        try with_reducible rfl
      refine wpAnyH_take' (i := 12) (v := ?v12_843) (some 77) rfl rfl (by kernel_rfl) (by kernel_rfl) (by kernel_rfl) (fun _ _ _ h => h) (Or.inl ⟨by kernel_rfl, ?y12_843⟩) (hHeld) ?_
      case y12_843 =>
        intro w' hSw
        go_simp
        try with_reducible rfl
      obtain ⟨A3, hA3⟩ : ∃ A3 : Option Addr, A3 = if ct = q then mt else mt.map (·.add (q * 2)) := ⟨_, rfl⟩
      have HA3 := Lib.hid hA3
      rw [← hA3] at RW3
      clear hA3
      refine wpAnyH_take' (i := 13) (v := .slice A3 (T.length - q) (ct - q)) (some 78) rfl rfl (by kernel_rfl) (by kernel_rfl) (by kernel_rfl) (fun _ _ _ h => h) (Or.inl ⟨by kernel_rfl, ?y13_844⟩) (hHeld) ?_
      case y13_844 =>
        intro w' hSw
        go_simp
        rw [HA3.out]
      clear c0 c1 q1
      have HZ0 := Lib.hid ((has_old W15).ext hHeld)
      clear hHeld
      generalize hwq : World.drew W15 = wd0 at HZ0 ⊢
      clear hwq
      refine wpAnyH_ready (rs := [0, 9]) (by kernel_rfl) (by simp) ?_
      refine AllReadyH.cons rfl (fun K hK => ?_) (AllReadyH.cons rfl (fun K hK => ?_) AllReadyH.nil)
      · rw [if_pos (by kernel_rfl)]
        go_simp
        have hN := HZ0.out.rowNew (cs := #[]) (T := 29) (sz := 2) (n := 0) (ext_refl _) (ext_refl _) rfl (by decide)
        refine hK.out _ _ (ext_alloc (HZ0.out.oldAt 0 rfl) _) (fun hS => ?_)
        clear hK hS
        have HZ1 := Lib.hid hN
        clear hN
        generalize hwq : World.alloc wd0 (Obj.cells #[] 29) = wqHZ1 at HZ1 ⊢
        clear hwq
        refine wpAnyH_ready (rs := [4, 9]) (by kernel_rfl) (by simp) ?_
        refine AllReadyH.cons rfl (fun K hK => ?_) (AllReadyH.cons rfl (fun K hK => ?_) AllReadyH.nil)
        · refine step_appT (D := []) (E := (T.take q)) HZ1.out 1 rfl (RW1.out _ (H15.out.ext (HZ1.out.oldAt 0 rfl))) (HB4.out) (.tmp 65) (.tmp 68) rfl rfl (by rfl) (by rw [HL1.out]; rfl) ?_
          intro ms4 cp4 w4 h4
          obtain ⟨n4, hn4⟩ : ∃ n, n = ([] ++ (T.take q)).length := ⟨_, rfl⟩
          rw [← hn4]
          have HN4 := Lib.hid hn4
          clear hn4
          refine hK.out _ _ (h4.oldAt 0 rfl) (fun hS => ?_)
          clear hK hS
          have HZ2 := Lib.hid h4
          clear h4
          refine wpAnyH_ready (rs := [9]) (by kernel_rfl) (by simp) ?_
          refine AllReadyH.cons rfl (fun K hK => ?_) AllReadyH.nil
          rw [if_pos (by kernel_rfl)]
          go_simp
          have hN := HZ2.out.rowNew (cs := #[.int .i64 x.due, .int .i64 x.id]) (T := 29) (sz := 2) (n := 1) (ext_refl _) (ext_refl _) rfl (by decide)
          refine hK.out _ _ (ext_alloc (HZ2.out.oldAt 0 rfl) _) (fun hS => ?_)
          clear hK hS
          have HZ3 := Lib.hid hN
          clear hN
          generalize hwq : World.alloc w4 (Obj.cells #[.int .i64 x.due, .int .i64 x.id] 29) = wqHZ3 at HZ3 ⊢
          clear hwq
          refine wpAnyH_ready (rs := [10]) (by kernel_rfl) (by simp) ?_
          refine AllReadyH.cons rfl (fun K hK => ?_) AllReadyH.nil
          refine step_appT (D := ([] ++ (T.take q))) (E := [x]) HZ3.out 1 rfl (tRow_rows (D := [x]) HZ3.out 2 rfl) (HB10.out) (.tmp 69) (.tmp 74) rfl rfl (by rw [← HN4.out]; rfl) (by rfl) ?_
          intro ms10 cp10 w10 h10
          obtain ⟨n10, hn10⟩ : ∃ n, n = (([] ++ (T.take q)) ++ [x]).length := ⟨_, rfl⟩
          rw [← hn10]
          have HN10 := Lib.hid hn10
          clear hn10
          refine hK.out _ _ (h10.oldAt 0 rfl) (fun hS => ?_)
          clear hK hS
          have HZ10 := Lib.hid h10
          clear h10
          refine wpAnyH_ready (rs := [14]) (by kernel_rfl) (by simp) ?_
          refine AllReadyH.cons rfl (fun K hK => ?_) AllReadyH.nil
          refine step_appT (D := ([] ++ (T.take q) ++ [x])) (E := (T.drop q)) HZ10.out 1 rfl (RW3.out _ (H15.out.ext (HZ10.out.oldAt 0 rfl))) (HB14.out) (.tmp 75) (.tmp 78) rfl rfl (by rw [← HN10.out]; rfl) (by rw [HL3.out]; rfl) ?_
          intro ms14 cp14 w14 h14
          obtain ⟨n14, hn14⟩ : ∃ n, n = (([] ++ (T.take q) ++ [x]) ++ (T.drop q)).length := ⟨_, rfl⟩
          rw [← hn14]
          have HN14 := Lib.hid hn14
          clear hn14
          refine hK.out _ _ (h14.oldAt 0 rfl) (fun hS => ?_)
          clear hK hS
          have HZ14 := Lib.hid h14
          clear h14
          refine wpAnyH_take' (i := 15) (v := ?v15_845) (some 13) rfl rfl (by kernel_rfl) (by kernel_rfl) (by kernel_rfl) (fun _ _ _ h => h) (Or.inl ⟨by kernel_rfl, ?y15_845⟩) ((HZ14.out.oldAt 0 rfl)) ?_
          case y15_845 =>
            intro w' hSw
            go_simp
            try with_reducible rfl
          refine wpAnyH_done (by kernel_rfl) ?_ _
          go_simp
          have hj := (H15.out.del 6).join HZ14.out rfl 1 rfl (by decide)
          have HN := Lib.hid hj
          clear hj HZ14 HZ10
          have hhn : Has _ [oldR w, boxR ob #[.int .i64 z.due, .int .i64 z.id] (sz2 _ _), heapR ha ma ra S 1000, mapR tb .i64 M, heapR hb mb none [] 1000, tRow (some ⟨bl, ol, none⟩) cap9 S, tRow ms14 cp14 ([] ++ (T.take q) ++ [x] ++ (T.drop q))] := HN.out
          have HNN := Lib.hid hhn
          clear hhn HN
          go_wp2
          go_roundg (gk - 1)
          case measure => omega
          case rel => exact ⟨i + 1, _, ms14, cp14, by rw [HN14.out], by go_num, by omega, HPN.out, HNN.out⟩
        · rw [if_pos (by kernel_rfl)]
          go_simp
          have hN := HZ1.out.rowNew (cs := #[.int .i64 x.due, .int .i64 x.id]) (T := 29) (sz := 2) (n := 1) (ext_refl _) (ext_refl _) rfl (by decide)
          refine hK.out _ _ (ext_alloc (HZ1.out.oldAt 0 rfl) _) (fun hS => ?_)
          clear hK hS
          have HZ2 := Lib.hid hN
          clear hN
          generalize hwq : World.alloc wqHZ1 (Obj.cells #[.int .i64 x.due, .int .i64 x.id] 29) = wqHZ2 at HZ2 ⊢
          clear hwq
          refine wpAnyH_ready (rs := [4]) (by kernel_rfl) (by simp) ?_
          refine AllReadyH.cons rfl (fun K hK => ?_) AllReadyH.nil
          refine step_appT (D := []) (E := (T.take q)) HZ2.out 1 rfl (RW1.out _ (H15.out.ext (HZ2.out.oldAt 0 rfl))) (HB4.out) (.tmp 65) (.tmp 68) rfl rfl (by rfl) (by rw [HL1.out]; rfl) ?_
          intro ms4 cp4 w4 h4
          obtain ⟨n4, hn4⟩ : ∃ n, n = ([] ++ (T.take q)).length := ⟨_, rfl⟩
          rw [← hn4]
          have HN4 := Lib.hid hn4
          clear hn4
          refine hK.out _ _ (h4.oldAt 0 rfl) (fun hS => ?_)
          clear hK hS
          have HZ3 := Lib.hid h4
          clear h4
          refine wpAnyH_ready (rs := [10]) (by kernel_rfl) (by simp) ?_
          refine AllReadyH.cons rfl (fun K hK => ?_) AllReadyH.nil
          refine step_appT (D := ([] ++ (T.take q))) (E := [x]) HZ3.out 1 rfl (tRow_rows (D := [x]) HZ3.out 2 rfl) (HB10.out) (.tmp 69) (.tmp 74) rfl rfl (by rw [← HN4.out]; rfl) (by rfl) ?_
          intro ms10 cp10 w10 h10
          obtain ⟨n10, hn10⟩ : ∃ n, n = (([] ++ (T.take q)) ++ [x]).length := ⟨_, rfl⟩
          rw [← hn10]
          have HN10 := Lib.hid hn10
          clear hn10
          refine hK.out _ _ (h10.oldAt 0 rfl) (fun hS => ?_)
          clear hK hS
          have HZ10 := Lib.hid h10
          clear h10
          refine wpAnyH_ready (rs := [14]) (by kernel_rfl) (by simp) ?_
          refine AllReadyH.cons rfl (fun K hK => ?_) AllReadyH.nil
          refine step_appT (D := ([] ++ (T.take q) ++ [x])) (E := (T.drop q)) HZ10.out 1 rfl (RW3.out _ (H15.out.ext (HZ10.out.oldAt 0 rfl))) (HB14.out) (.tmp 75) (.tmp 78) rfl rfl (by rw [← HN10.out]; rfl) (by rw [HL3.out]; rfl) ?_
          intro ms14 cp14 w14 h14
          obtain ⟨n14, hn14⟩ : ∃ n, n = (([] ++ (T.take q) ++ [x]) ++ (T.drop q)).length := ⟨_, rfl⟩
          rw [← hn14]
          have HN14 := Lib.hid hn14
          clear hn14
          refine hK.out _ _ (h14.oldAt 0 rfl) (fun hS => ?_)
          clear hK hS
          have HZ14 := Lib.hid h14
          clear h14
          refine wpAnyH_take' (i := 15) (v := ?v15_846) (some 13) rfl rfl (by kernel_rfl) (by kernel_rfl) (by kernel_rfl) (fun _ _ _ h => h) (Or.inl ⟨by kernel_rfl, ?y15_846⟩) ((HZ14.out.oldAt 0 rfl)) ?_
          case y15_846 =>
            intro w' hSw
            go_simp
            try with_reducible rfl
          refine wpAnyH_done (by kernel_rfl) ?_ _
          go_simp
          have hj := (H15.out.del 6).join HZ14.out rfl 1 rfl (by decide)
          have HN := Lib.hid hj
          clear hj HZ14 HZ10
          have hhn : Has _ [oldR w, boxR ob #[.int .i64 z.due, .int .i64 z.id] (sz2 _ _), heapR ha ma ra S 1000, mapR tb .i64 M, heapR hb mb none [] 1000, tRow (some ⟨bl, ol, none⟩) cap9 S, tRow ms14 cp14 ([] ++ (T.take q) ++ [x] ++ (T.drop q))] := HN.out
          have HNN := Lib.hid hhn
          clear hhn HN
          go_wp2
          go_roundg (gk - 1)
          case measure => omega
          case rel => exact ⟨i + 1, _, ms14, cp14, by rw [HN14.out], by go_num, by omega, HPN.out, HNN.out⟩
      · rw [if_pos (by kernel_rfl)]
        go_simp
        have hN := HZ0.out.rowNew (cs := #[.int .i64 x.due, .int .i64 x.id]) (T := 29) (sz := 2) (n := 1) (ext_refl _) (ext_refl _) rfl (by decide)
        refine hK.out _ _ (ext_alloc (HZ0.out.oldAt 0 rfl) _) (fun hS => ?_)
        clear hK hS
        have HZ1 := Lib.hid hN
        clear hN
        generalize hwq : World.alloc wd0 (Obj.cells #[.int .i64 x.due, .int .i64 x.id] 29) = wqHZ1 at HZ1 ⊢
        clear hwq
        refine wpAnyH_ready (rs := [0]) (by kernel_rfl) (by simp) ?_
        refine AllReadyH.cons rfl (fun K hK => ?_) AllReadyH.nil
        rw [if_pos (by kernel_rfl)]
        go_simp
        have hN := HZ1.out.rowNew (cs := #[]) (T := 29) (sz := 2) (n := 0) (ext_refl _) (ext_refl _) rfl (by decide)
        refine hK.out _ _ (ext_alloc (HZ1.out.oldAt 0 rfl) _) (fun hS => ?_)
        clear hK hS
        have HZ2 := Lib.hid hN
        clear hN
        generalize hwq : World.alloc wqHZ1 (Obj.cells #[] 29) = wqHZ2 at HZ2 ⊢
        clear hwq
        refine wpAnyH_ready (rs := [4]) (by kernel_rfl) (by simp) ?_
        refine AllReadyH.cons rfl (fun K hK => ?_) AllReadyH.nil
        refine step_appT (D := []) (E := (T.take q)) HZ2.out 2 rfl (RW1.out _ (H15.out.ext (HZ2.out.oldAt 0 rfl))) (HB4.out) (.tmp 65) (.tmp 68) rfl rfl (by rfl) (by rw [HL1.out]; rfl) ?_
        intro ms4 cp4 w4 h4
        obtain ⟨n4, hn4⟩ : ∃ n, n = ([] ++ (T.take q)).length := ⟨_, rfl⟩
        rw [← hn4]
        have HN4 := Lib.hid hn4
        clear hn4
        refine hK.out _ _ (h4.oldAt 0 rfl) (fun hS => ?_)
        clear hK hS
        have HZ3 := Lib.hid h4
        clear h4
        refine wpAnyH_ready (rs := [10]) (by kernel_rfl) (by simp) ?_
        refine AllReadyH.cons rfl (fun K hK => ?_) AllReadyH.nil
        refine step_appT (D := ([] ++ (T.take q))) (E := [x]) HZ3.out 2 rfl (tRow_rows (D := [x]) HZ3.out 1 rfl) (HB10.out) (.tmp 69) (.tmp 74) rfl rfl (by rw [← HN4.out]; rfl) (by rfl) ?_
        intro ms10 cp10 w10 h10
        obtain ⟨n10, hn10⟩ : ∃ n, n = (([] ++ (T.take q)) ++ [x]).length := ⟨_, rfl⟩
        rw [← hn10]
        have HN10 := Lib.hid hn10
        clear hn10
        refine hK.out _ _ (h10.oldAt 0 rfl) (fun hS => ?_)
        clear hK hS
        have HZ10 := Lib.hid h10
        clear h10
        refine wpAnyH_ready (rs := [14]) (by kernel_rfl) (by simp) ?_
        refine AllReadyH.cons rfl (fun K hK => ?_) AllReadyH.nil
        refine step_appT (D := ([] ++ (T.take q) ++ [x])) (E := (T.drop q)) HZ10.out 2 rfl (RW3.out _ (H15.out.ext (HZ10.out.oldAt 0 rfl))) (HB14.out) (.tmp 75) (.tmp 78) rfl rfl (by rw [← HN10.out]; rfl) (by rw [HL3.out]; rfl) ?_
        intro ms14 cp14 w14 h14
        obtain ⟨n14, hn14⟩ : ∃ n, n = (([] ++ (T.take q) ++ [x]) ++ (T.drop q)).length := ⟨_, rfl⟩
        rw [← hn14]
        have HN14 := Lib.hid hn14
        clear hn14
        refine hK.out _ _ (h14.oldAt 0 rfl) (fun hS => ?_)
        clear hK hS
        have HZ14 := Lib.hid h14
        clear h14
        refine wpAnyH_take' (i := 15) (v := ?v15_847) (some 13) rfl rfl (by kernel_rfl) (by kernel_rfl) (by kernel_rfl) (fun _ _ _ h => h) (Or.inl ⟨by kernel_rfl, ?y15_847⟩) ((HZ14.out.oldAt 0 rfl)) ?_
        case y15_847 =>
          intro w' hSw
          go_simp
          try with_reducible rfl
        refine wpAnyH_done (by kernel_rfl) ?_ _
        go_simp
        have hj := (H15.out.del 6).join HZ14.out rfl 2 rfl (by decide)
        have HN := Lib.hid hj
        clear hj HZ14 HZ10
        have hhn : Has _ [oldR w, boxR ob #[.int .i64 z.due, .int .i64 z.id] (sz2 _ _), heapR ha ma ra S 1000, mapR tb .i64 M, heapR hb mb none [] 1000, tRow (some ⟨bl, ol, none⟩) cap9 S, tRow ms14 cp14 ([] ++ (T.take q) ++ [x] ++ (T.drop q))] := HN.out
        have HNN := Lib.hid hhn
        clear hhn HN
        go_wp2
        go_roundg (gk - 1)
        case measure => omega
        case rel => exact ⟨i + 1, _, ms14, cp14, by rw [HN14.out], by go_num, by omega, HPN.out, HNN.out⟩
    · have n2 : ¬ ((i : Int) < (B.length : Int)) := by omega
      go_upto_region 15 with fail
      refine wp_at ?_
      intro W15 hW
      have x_W15 : Ext wr W15 := by rw [hW]; repeat (first | exact ext_refl _ | assumption | refine ext_more' ?_ _ _ | refine ext_drew ?_ | refine ext_drewN ?_ _ | refine ext_alloc ?_ _)
      have H15 := Lib.hid (HH.out.ext x_W15)
      clear x_W15
      clear hW
      obtain ⟨bl, ol, em, ql, c0, c1⟩ := tmr_cells (V := fun i => at_ S i) (tRow_rows H15.out 5 rfl) (ext_refl W15) hi
      have q1 : bl < W15.heap.size := ql
      subst em
      obtain ⟨x, hx⟩ : ∃ x, x = at_ S i := ⟨_, rfl⟩
      rw [← hx] at c0 c1
      have HXX := Lib.hid hx
      clear hx ql
      have HL1 := Lib.hid (show (T.take 0).length = 0 by rw [List.length_take]; omega)
      have HL3 := Lib.hid (show T.length = T.length - 0 by rfl)
      have HB4 := Lib.hid (show ([] : List Tmr).length + (T.take 0).length ≤ 1000000 by rw [HL1.out]; simp only [List.length_nil]; omega)
      have HB10 := Lib.hid (show (([] : List Tmr) ++ (T.take 0)).length + [x].length ≤ 1000000 by rw [List.nil_append, HL1.out]; simp only [List.length_cons, List.length_nil]; omega)
      have HB14 := Lib.hid (show (([] : List Tmr) ++ (T.take 0) ++ [x]).length + T.length ≤ 1000000 by rw [List.nil_append, List.length_append, HL1.out, HL3.out]; simp only [List.length_cons, List.length_nil]; omega)
      have RW1 := Lib.hid (fun (w' : World) (h : Has w' [oldR w, boxR ob #[.int .i64 z.due, .int .i64 z.id] (sz2 _ _), heapR ha ma ra S 1000, mapR tb .i64 M, heapR hb mb none [] 1000, tRow (some ⟨bl, ol, none⟩) cap9 S, tRow mt ct T]) => rows_sub (tRow_rows h 6 rfl) 0 (by omega))
      have RW3 := Lib.hid (fun (w' : World) (h : Has w' [oldR w, boxR ob #[.int .i64 z.due, .int .i64 z.id] (sz2 _ _), heapR ha ma ra S 1000, mapR tb .i64 M, heapR hb mb none [] 1000, tRow (some ⟨bl, ol, none⟩) cap9 S, tRow mt ct T]) => tRow_rows h 6 rfl)
      have HPN := Lib.hid (show (([] : List Tmr) ++ (T.take 0) ++ [x] ++ T).Perm (S.take (i + 1)) by
        have := perm_put (q := 0) HPM.out hi
        rw [← HXX.out] at this
        rw [List.nil_append]; simpa using this)
      refine wp_region_held_drew (S := fun w' => Ext W15 w') (by kernel_rfl) (ext_drew (ext_refl _)) (fun hHeld => ?_)
      refine wpAnyH_take' (i := 1) (v := ?v1_848) (some 66) rfl rfl (by kernel_rfl) (by kernel_rfl) (by kernel_rfl) (fun _ _ _ h => h) (Or.inl ⟨by kernel_rfl, ?y1_848⟩) (hHeld) ?_
      case y1_848 =>
        intro w' hSw
        go_simp
        try with_reducible rfl
      refine wpAnyH_take' (i := 2) (v := ?v2_849) (some 67) rfl rfl (by kernel_rfl) (by kernel_rfl) (by kernel_rfl) (fun _ _ _ h => h) (Or.inl ⟨by kernel_rfl, ?y2_849⟩) (hHeld) ?_
      case y2_849 =>
        intro w' hSw
        go_simp
        try with_reducible rfl
      refine wpAnyH_take' (i := 3) (v := ?v3_850) (some 68) rfl rfl (by kernel_rfl) (by kernel_rfl) (by kernel_rfl) (fun _ _ _ h => h) (Or.inl ⟨by kernel_rfl, ?y3_850⟩) (hHeld) ?_
      case y3_850 =>
        intro w' hSw
        go_simp
        try with_reducible rfl
      refine wpAnyH_take' (i := 5) (v := ?v5_851) (some 70) rfl rfl (by kernel_rfl) (by kernel_rfl) (by kernel_rfl) (fun _ _ _ h => h) (Or.inl ⟨by kernel_rfl, ?y5_851⟩) (hHeld) ?_
      case y5_851 =>
        intro w' hSw
        go_simp
        try with_reducible rfl
      refine wpAnyH_take' (i := 6) (v := ?v6_852) (some 71) rfl rfl (by kernel_rfl) (by kernel_rfl) (by kernel_rfl) (fun _ _ _ h => h) (Or.inl ⟨by kernel_rfl, ?y6_852⟩) (hHeld) ?_
      case y6_852 =>
        intro w' hSw
        go_simp
        try with_reducible rfl
      refine wpAnyH_take' (i := 7) (v := ?v7_853) (some 72) rfl rfl (by kernel_rfl) (by kernel_rfl) (by kernel_rfl) (fun _ _ _ h => h) (Or.inl ⟨by kernel_rfl, ?y7_853⟩) (hHeld) ?_
      case y7_853 =>
        intro w' hSw
        go_simp
        try with_reducible rfl
      refine wpAnyH_take' (i := 8) (v := ?v8_854) (some 73) rfl rfl (by kernel_rfl) (by kernel_rfl) (by kernel_rfl) (fun _ _ _ h => h) (Or.inl ⟨by kernel_rfl, ?y8_854⟩) (hHeld) ?_
      case y8_854 =>
        intro w' hSw
        have c0' := (hSw.cell (p := ⟨bl, ol + i * 2, none⟩) q1).trans c0; have c1' := (hSw.cell (p := ⟨bl, ol + i * 2 + 1, none⟩) q1).trans c1; go_simp
        try with_reducible rfl
      refine wpAnyH_take' (i := 11) (v := ?v11_855) (some 76) rfl rfl (by kernel_rfl) (by kernel_rfl) (by kernel_rfl) (fun _ _ _ h => h) (Or.inl ⟨by kernel_rfl, ?y11_855⟩) (hHeld) ?_
      case y11_855 =>
        intro w' hSw
        go_simp
        try with_reducible rfl
      refine wpAnyH_take' (i := 12) (v := ?v12_856) (some 77) rfl rfl (by kernel_rfl) (by kernel_rfl) (by kernel_rfl) (fun _ _ _ h => h) (Or.inl ⟨by kernel_rfl, ?y12_856⟩) (hHeld) ?_
      case y12_856 =>
        intro w' hSw
        go_simp
        try with_reducible rfl
      refine wpAnyH_take' (i := 13) (v := ?v13_857) (some 78) rfl rfl (by kernel_rfl) (by kernel_rfl) (by kernel_rfl) (fun _ _ _ h => h) (Or.inl ⟨by kernel_rfl, ?y13_857⟩) (hHeld) ?_
      case y13_857 =>
        intro w' hSw
        go_simp
        try with_reducible rfl
      clear c0 c1 q1
      have HZ0 := Lib.hid ((has_old W15).ext hHeld)
      clear hHeld
      generalize hwq : World.drew W15 = wd0 at HZ0 ⊢
      clear hwq
      refine wpAnyH_ready (rs := [0, 9]) (by kernel_rfl) (by simp) ?_
      refine AllReadyH.cons rfl (fun K hK => ?_) (AllReadyH.cons rfl (fun K hK => ?_) AllReadyH.nil)
      · rw [if_pos (by kernel_rfl)]
        go_simp
        have hN := HZ0.out.rowNew (cs := #[]) (T := 29) (sz := 2) (n := 0) (ext_refl _) (ext_refl _) rfl (by decide)
        refine hK.out _ _ (ext_alloc (HZ0.out.oldAt 0 rfl) _) (fun hS => ?_)
        clear hK hS
        have HZ1 := Lib.hid hN
        clear hN
        generalize hwq : World.alloc wd0 (Obj.cells #[] 29) = wqHZ1 at HZ1 ⊢
        clear hwq
        refine wpAnyH_ready (rs := [4, 9]) (by kernel_rfl) (by simp) ?_
        refine AllReadyH.cons rfl (fun K hK => ?_) (AllReadyH.cons rfl (fun K hK => ?_) AllReadyH.nil)
        · refine step_appT (D := []) (E := (T.take 0)) HZ1.out 1 rfl (RW1.out _ (H15.out.ext (HZ1.out.oldAt 0 rfl))) (HB4.out) (.tmp 65) (.tmp 68) rfl rfl (by rfl) (by rfl) ?_
          intro ms4 cp4 w4 h4
          obtain ⟨n4, hn4⟩ : ∃ n, n = ([] ++ (T.take 0)).length := ⟨_, rfl⟩
          rw [← hn4]
          have HN4 := Lib.hid hn4
          clear hn4
          refine hK.out _ _ (h4.oldAt 0 rfl) (fun hS => ?_)
          clear hK hS
          have HZ2 := Lib.hid h4
          clear h4
          refine wpAnyH_ready (rs := [9]) (by kernel_rfl) (by simp) ?_
          refine AllReadyH.cons rfl (fun K hK => ?_) AllReadyH.nil
          rw [if_pos (by kernel_rfl)]
          go_simp
          have hN := HZ2.out.rowNew (cs := #[.int .i64 x.due, .int .i64 x.id]) (T := 29) (sz := 2) (n := 1) (ext_refl _) (ext_refl _) rfl (by decide)
          refine hK.out _ _ (ext_alloc (HZ2.out.oldAt 0 rfl) _) (fun hS => ?_)
          clear hK hS
          have HZ3 := Lib.hid hN
          clear hN
          generalize hwq : World.alloc w4 (Obj.cells #[.int .i64 x.due, .int .i64 x.id] 29) = wqHZ3 at HZ3 ⊢
          clear hwq
          refine wpAnyH_ready (rs := [10]) (by kernel_rfl) (by simp) ?_
          refine AllReadyH.cons rfl (fun K hK => ?_) AllReadyH.nil
          refine step_appT (D := ([] ++ (T.take 0))) (E := [x]) HZ3.out 1 rfl (tRow_rows (D := [x]) HZ3.out 2 rfl) (HB10.out) (.tmp 69) (.tmp 74) rfl rfl (by rw [← HN4.out]; rfl) (by rfl) ?_
          intro ms10 cp10 w10 h10
          obtain ⟨n10, hn10⟩ : ∃ n, n = (([] ++ (T.take 0)) ++ [x]).length := ⟨_, rfl⟩
          rw [← hn10]
          have HN10 := Lib.hid hn10
          clear hn10
          refine hK.out _ _ (h10.oldAt 0 rfl) (fun hS => ?_)
          clear hK hS
          have HZ10 := Lib.hid h10
          clear h10
          refine wpAnyH_ready (rs := [14]) (by kernel_rfl) (by simp) ?_
          refine AllReadyH.cons rfl (fun K hK => ?_) AllReadyH.nil
          refine step_appT (D := ([] ++ (T.take 0) ++ [x])) (E := T) HZ10.out 1 rfl (RW3.out _ (H15.out.ext (HZ10.out.oldAt 0 rfl))) (HB14.out) (.tmp 75) (.tmp 78) rfl rfl (by rw [← HN10.out]; rfl) (by rfl) ?_
          intro ms14 cp14 w14 h14
          obtain ⟨n14, hn14⟩ : ∃ n, n = (([] ++ (T.take 0) ++ [x]) ++ T).length := ⟨_, rfl⟩
          rw [← hn14]
          have HN14 := Lib.hid hn14
          clear hn14
          refine hK.out _ _ (h14.oldAt 0 rfl) (fun hS => ?_)
          clear hK hS
          have HZ14 := Lib.hid h14
          clear h14
          refine wpAnyH_take' (i := 15) (v := ?v15_858) (some 13) rfl rfl (by kernel_rfl) (by kernel_rfl) (by kernel_rfl) (fun _ _ _ h => h) (Or.inl ⟨by kernel_rfl, ?y15_858⟩) ((HZ14.out.oldAt 0 rfl)) ?_
          case y15_858 =>
            intro w' hSw
            go_simp
            try with_reducible rfl
          refine wpAnyH_done (by kernel_rfl) ?_ _
          go_simp
          have hj := (H15.out.del 6).join HZ14.out rfl 1 rfl (by decide)
          have HN := Lib.hid hj
          clear hj HZ14 HZ10
          have hhn : Has _ [oldR w, boxR ob #[.int .i64 z.due, .int .i64 z.id] (sz2 _ _), heapR ha ma ra S 1000, mapR tb .i64 M, heapR hb mb none [] 1000, tRow (some ⟨bl, ol, none⟩) cap9 S, tRow ms14 cp14 ([] ++ (T.take 0) ++ [x] ++ T)] := HN.out
          have HNN := Lib.hid hhn
          clear hhn HN
          go_wp2
          go_roundg (gk - 1)
          case measure => omega
          case rel => exact ⟨i + 1, _, ms14, cp14, by rw [HN14.out], by go_num, by omega, HPN.out, HNN.out⟩
        · rw [if_pos (by kernel_rfl)]
          go_simp
          have hN := HZ1.out.rowNew (cs := #[.int .i64 x.due, .int .i64 x.id]) (T := 29) (sz := 2) (n := 1) (ext_refl _) (ext_refl _) rfl (by decide)
          refine hK.out _ _ (ext_alloc (HZ1.out.oldAt 0 rfl) _) (fun hS => ?_)
          clear hK hS
          have HZ2 := Lib.hid hN
          clear hN
          generalize hwq : World.alloc wqHZ1 (Obj.cells #[.int .i64 x.due, .int .i64 x.id] 29) = wqHZ2 at HZ2 ⊢
          clear hwq
          refine wpAnyH_ready (rs := [4]) (by kernel_rfl) (by simp) ?_
          refine AllReadyH.cons rfl (fun K hK => ?_) AllReadyH.nil
          refine step_appT (D := []) (E := (T.take 0)) HZ2.out 1 rfl (RW1.out _ (H15.out.ext (HZ2.out.oldAt 0 rfl))) (HB4.out) (.tmp 65) (.tmp 68) rfl rfl (by rfl) (by rfl) ?_
          intro ms4 cp4 w4 h4
          obtain ⟨n4, hn4⟩ : ∃ n, n = ([] ++ (T.take 0)).length := ⟨_, rfl⟩
          rw [← hn4]
          have HN4 := Lib.hid hn4
          clear hn4
          refine hK.out _ _ (h4.oldAt 0 rfl) (fun hS => ?_)
          clear hK hS
          have HZ3 := Lib.hid h4
          clear h4
          refine wpAnyH_ready (rs := [10]) (by kernel_rfl) (by simp) ?_
          refine AllReadyH.cons rfl (fun K hK => ?_) AllReadyH.nil
          refine step_appT (D := ([] ++ (T.take 0))) (E := [x]) HZ3.out 1 rfl (tRow_rows (D := [x]) HZ3.out 2 rfl) (HB10.out) (.tmp 69) (.tmp 74) rfl rfl (by rw [← HN4.out]; rfl) (by rfl) ?_
          intro ms10 cp10 w10 h10
          obtain ⟨n10, hn10⟩ : ∃ n, n = (([] ++ (T.take 0)) ++ [x]).length := ⟨_, rfl⟩
          rw [← hn10]
          have HN10 := Lib.hid hn10
          clear hn10
          refine hK.out _ _ (h10.oldAt 0 rfl) (fun hS => ?_)
          clear hK hS
          have HZ10 := Lib.hid h10
          clear h10
          refine wpAnyH_ready (rs := [14]) (by kernel_rfl) (by simp) ?_
          refine AllReadyH.cons rfl (fun K hK => ?_) AllReadyH.nil
          refine step_appT (D := ([] ++ (T.take 0) ++ [x])) (E := T) HZ10.out 1 rfl (RW3.out _ (H15.out.ext (HZ10.out.oldAt 0 rfl))) (HB14.out) (.tmp 75) (.tmp 78) rfl rfl (by rw [← HN10.out]; rfl) (by rfl) ?_
          intro ms14 cp14 w14 h14
          obtain ⟨n14, hn14⟩ : ∃ n, n = (([] ++ (T.take 0) ++ [x]) ++ T).length := ⟨_, rfl⟩
          rw [← hn14]
          have HN14 := Lib.hid hn14
          clear hn14
          refine hK.out _ _ (h14.oldAt 0 rfl) (fun hS => ?_)
          clear hK hS
          have HZ14 := Lib.hid h14
          clear h14
          refine wpAnyH_take' (i := 15) (v := ?v15_859) (some 13) rfl rfl (by kernel_rfl) (by kernel_rfl) (by kernel_rfl) (fun _ _ _ h => h) (Or.inl ⟨by kernel_rfl, ?y15_859⟩) ((HZ14.out.oldAt 0 rfl)) ?_
          case y15_859 =>
            intro w' hSw
            go_simp
            try with_reducible rfl
          refine wpAnyH_done (by kernel_rfl) ?_ _
          go_simp
          have hj := (H15.out.del 6).join HZ14.out rfl 1 rfl (by decide)
          have HN := Lib.hid hj
          clear hj HZ14 HZ10
          have hhn : Has _ [oldR w, boxR ob #[.int .i64 z.due, .int .i64 z.id] (sz2 _ _), heapR ha ma ra S 1000, mapR tb .i64 M, heapR hb mb none [] 1000, tRow (some ⟨bl, ol, none⟩) cap9 S, tRow ms14 cp14 ([] ++ (T.take 0) ++ [x] ++ T)] := HN.out
          have HNN := Lib.hid hhn
          clear hhn HN
          go_wp2
          go_roundg (gk - 1)
          case measure => omega
          case rel => exact ⟨i + 1, _, ms14, cp14, by rw [HN14.out], by go_num, by omega, HPN.out, HNN.out⟩
      · rw [if_pos (by kernel_rfl)]
        go_simp
        have hN := HZ0.out.rowNew (cs := #[.int .i64 x.due, .int .i64 x.id]) (T := 29) (sz := 2) (n := 1) (ext_refl _) (ext_refl _) rfl (by decide)
        refine hK.out _ _ (ext_alloc (HZ0.out.oldAt 0 rfl) _) (fun hS => ?_)
        clear hK hS
        have HZ1 := Lib.hid hN
        clear hN
        generalize hwq : World.alloc wd0 (Obj.cells #[.int .i64 x.due, .int .i64 x.id] 29) = wqHZ1 at HZ1 ⊢
        clear hwq
        refine wpAnyH_ready (rs := [0]) (by kernel_rfl) (by simp) ?_
        refine AllReadyH.cons rfl (fun K hK => ?_) AllReadyH.nil
        rw [if_pos (by kernel_rfl)]
        go_simp
        have hN := HZ1.out.rowNew (cs := #[]) (T := 29) (sz := 2) (n := 0) (ext_refl _) (ext_refl _) rfl (by decide)
        refine hK.out _ _ (ext_alloc (HZ1.out.oldAt 0 rfl) _) (fun hS => ?_)
        clear hK hS
        have HZ2 := Lib.hid hN
        clear hN
        generalize hwq : World.alloc wqHZ1 (Obj.cells #[] 29) = wqHZ2 at HZ2 ⊢
        clear hwq
        refine wpAnyH_ready (rs := [4]) (by kernel_rfl) (by simp) ?_
        refine AllReadyH.cons rfl (fun K hK => ?_) AllReadyH.nil
        refine step_appT (D := []) (E := (T.take 0)) HZ2.out 2 rfl (RW1.out _ (H15.out.ext (HZ2.out.oldAt 0 rfl))) (HB4.out) (.tmp 65) (.tmp 68) rfl rfl (by rfl) (by rfl) ?_
        intro ms4 cp4 w4 h4
        obtain ⟨n4, hn4⟩ : ∃ n, n = ([] ++ (T.take 0)).length := ⟨_, rfl⟩
        rw [← hn4]
        have HN4 := Lib.hid hn4
        clear hn4
        refine hK.out _ _ (h4.oldAt 0 rfl) (fun hS => ?_)
        clear hK hS
        have HZ3 := Lib.hid h4
        clear h4
        refine wpAnyH_ready (rs := [10]) (by kernel_rfl) (by simp) ?_
        refine AllReadyH.cons rfl (fun K hK => ?_) AllReadyH.nil
        refine step_appT (D := ([] ++ (T.take 0))) (E := [x]) HZ3.out 2 rfl (tRow_rows (D := [x]) HZ3.out 1 rfl) (HB10.out) (.tmp 69) (.tmp 74) rfl rfl (by rw [← HN4.out]; rfl) (by rfl) ?_
        intro ms10 cp10 w10 h10
        obtain ⟨n10, hn10⟩ : ∃ n, n = (([] ++ (T.take 0)) ++ [x]).length := ⟨_, rfl⟩
        rw [← hn10]
        have HN10 := Lib.hid hn10
        clear hn10
        refine hK.out _ _ (h10.oldAt 0 rfl) (fun hS => ?_)
        clear hK hS
        have HZ10 := Lib.hid h10
        clear h10
        refine wpAnyH_ready (rs := [14]) (by kernel_rfl) (by simp) ?_
        refine AllReadyH.cons rfl (fun K hK => ?_) AllReadyH.nil
        refine step_appT (D := ([] ++ (T.take 0) ++ [x])) (E := T) HZ10.out 2 rfl (RW3.out _ (H15.out.ext (HZ10.out.oldAt 0 rfl))) (HB14.out) (.tmp 75) (.tmp 78) rfl rfl (by rw [← HN10.out]; rfl) (by rfl) ?_
        intro ms14 cp14 w14 h14
        obtain ⟨n14, hn14⟩ : ∃ n, n = (([] ++ (T.take 0) ++ [x]) ++ T).length := ⟨_, rfl⟩
        rw [← hn14]
        have HN14 := Lib.hid hn14
        clear hn14
        refine hK.out _ _ (h14.oldAt 0 rfl) (fun hS => ?_)
        clear hK hS
        have HZ14 := Lib.hid h14
        clear h14
        refine wpAnyH_take' (i := 15) (v := ?v15_860) (some 13) rfl rfl (by kernel_rfl) (by kernel_rfl) (by kernel_rfl) (fun _ _ _ h => h) (Or.inl ⟨by kernel_rfl, ?y15_860⟩) ((HZ14.out.oldAt 0 rfl)) ?_
        case y15_860 =>
          intro w' hSw
          go_simp
          try with_reducible rfl
        refine wpAnyH_done (by kernel_rfl) ?_ _
        go_simp
        have hj := (H15.out.del 6).join HZ14.out rfl 2 rfl (by decide)
        have HN := Lib.hid hj
        clear hj HZ14 HZ10
        have hhn : Has _ [oldR w, boxR ob #[.int .i64 z.due, .int .i64 z.id] (sz2 _ _), heapR ha ma ra S 1000, mapR tb .i64 M, heapR hb mb none [] 1000, tRow (some ⟨bl, ol, none⟩) cap9 S, tRow ms14 cp14 ([] ++ (T.take 0) ++ [x] ++ T)] := HN.out
        have HNN := Lib.hid hhn
        clear hhn HN
        go_wp2
        go_roundg (gk - 1)
        case measure => omega
        case rel => exact ⟨i + 1, _, ms14, cp14, by rw [HN14.out], by go_num, by omega, HPN.out, HNN.out⟩
end Go.Proofs.Ytkicofagjebnjaa
