/- What the laws of layer 12 call. -/
import Derived.Test.YthpgmefjgidkgaaUG12
import Derived.Test.YthpgmefjgidkgaaUH12
import Derived.Test.YthpgmefjgidkgaaVA12
namespace Go.Proofs.Ythpgmefjgidkgaa
open Go.RowKit
set_option linter.unusedVariables false
set_option linter.unusedSimpArgs false

theorem sm_of {h : Hs} {n : Nat} (f : FhP h n) (hn : n ≤ 100000) : HsSm h := by
  have h1 := f.cl; have h2 := f.tl; have h3 := f.kl; have h4 := f.sl
  unfold HsSm; omega
theorem nextF_calls (h : Hs) (m : Hm) (e : Ev) (w : World) (n : Nat) (f : FhP h n) (hn : n ≤ 100000) (hi : HsIn w h m) (k0 : 0 ≤ e.k) (k1 : e.k ≤ 255) : Calls Try.prog 10 #[.agg #[.string h.prog, .int .i64 h.arg, .slice m.cs h.cmds.length m.cc, .slice m.ts h.tries.length m.tc, .slice m.ks h.known.length m.kc, .slice m.ss h.sigs.length m.sc, .bool h.stopped, .bool h.closed, .int .i64 h.out.st, .int .i64 h.out.v, .int .i64 h.len, .int .i64 h.last], .agg #[.int .u8 e.k, .int .i64 e.at', .int .i64 e.n, .int .i64 e.p, .int .i64 e.a, .int .i64 e.b, .string e.s]] w (NextPost w h e) := by
  have hs := sm_of f hn
  have hl : 0 ≤ h.len := by have := f.len; omega
  have hl2 : h.len ≤ 1000000 := by have := f.len; omega
  have hr := f.right; have hkd := f.kd
  obtain ⟨prog, arg, cmds, tries, known, sigs, st, cl, ⟨ost, ov⟩, len, last⟩ := h
  obtain ⟨k, at', n, p, a, b, s⟩ := e
  obtain ⟨cs, cc, ts, tc, ks, kc, ss, sc⟩ := m
  exact next_calls prog arg ost ov len last cs ts ks ss cc tc kc sc cmds tries sigs known st cl k at' n p a b s w hi hs hkd k0 k1 hr hl hl2
theorem rightF_calls (h : Hs) (m : Hm) (w : World) (hs : HsSm h) (hkd : ∀ i, i < h.cmds.length → 0 ≤ (h.cmds.getD i default).kind ∧ (h.cmds.getD i default).kind ≤ 255) (hi : HsIn w h m) : Calls Try.prog 13 #[.agg #[.string h.prog, .int .i64 h.arg, .slice m.cs h.cmds.length m.cc, .slice m.ts h.tries.length m.tc, .slice m.ks h.known.length m.kc, .slice m.ss h.sigs.length m.sc, .bool h.stopped, .bool h.closed, .int .i64 h.out.st, .int .i64 h.out.v, .int .i64 h.len, .int .i64 h.last]] w fun e w' => e = .returned (.bool (hrB h)) ∧ Ext w w' := by
  obtain ⟨prog, arg, cmds, tries, known, sigs, st, cl, ⟨ost, ov⟩, len, last⟩ := h
  obtain ⟨cs, cc, ts, tc, ks, kc, ss, sc⟩ := m
  exact hright_calls prog arg ost ov len last cs ts ks ss cc tc kc sc cmds tries sigs known st cl w hi hs hkd
theorem openF_calls (h : Hs) (m : Hm) (w : World) (hs : HsSm h) (hi : HsIn w h m) : Calls Try.prog 15 #[.agg #[.string h.prog, .int .i64 h.arg, .slice m.cs h.cmds.length m.cc, .slice m.ts h.tries.length m.tc, .slice m.ks h.known.length m.kc, .slice m.ss h.sigs.length m.sc, .bool h.stopped, .bool h.closed, .int .i64 h.out.st, .int .i64 h.out.v, .int .i64 h.len, .int .i64 h.last]] w fun e w' => (∃ ms cap, e = .returned (.slice ms (openL h).length cap)) ∧ Ext w w' := by
  obtain ⟨prog, arg, cmds, tries, known, sigs, st, cl, ⟨ost, ov⟩, len, last⟩ := h
  obtain ⟨cs, cc, ts, tc, ks, kc, ss, sc⟩ := m
  exact open_calls prog arg ost ov len last cs ts ks ss cc tc kc sc cmds tries sigs known st cl w hi hs
set_option maxRecDepth 100000 in
set_option maxHeartbeats 4000000 in
theorem same12_calls (h : Hs) (m m2 : Hm) (w : World) (hs : HsSm h) (h1 : HsIn w h m) (h2 : HsIn w h m2) : Calls Try.prog 12 #[.agg #[.string h.prog, .int .i64 h.arg, .slice m.cs h.cmds.length m.cc, .slice m.ts h.tries.length m.tc, .slice m.ks h.known.length m.kc, .slice m.ss h.sigs.length m.sc, .bool h.stopped, .bool h.closed, .int .i64 h.out.st, .int .i64 h.out.v, .int .i64 h.len, .int .i64 h.last], .agg #[.string h.prog, .int .i64 h.arg, .slice m2.cs h.cmds.length m2.cc, .slice m2.ts h.tries.length m2.tc, .slice m2.ks h.known.length m2.kc, .slice m2.ss h.sigs.length m2.sc, .bool h.stopped, .bool h.closed, .int .i64 h.out.st, .int .i64 h.out.v, .int .i64 h.len, .int .i64 h.last]] w fun e w' => e = .returned (.bool true) ∧ Ext w w' := by
  obtain ⟨prog, arg, cmds, tries, known, sigs, st, cl, ⟨ost, ov⟩, len, last⟩ := h
  obtain ⟨cs, cc, ts, tc, ks, kc, ss, sc⟩ := m
  obtain ⟨cs2, cc2, ts2, tc2, ks2, kc2, ss2, sc2⟩ := m2
  have H1 := Lib.hid h1; have H2 := Lib.hid h2
  have s1 : cmds.length ≤ 1000000 := hs.1
  have s2 : tries.length ≤ 1000000 := hs.2.1
  have s3 : known.length ≤ 1000000 := hs.2.2.1
  have s4 : sigs.length ≤ 1000000 := hs.2.2.2
  clear h1 h2 hs
  go_enter Try.func12, Try.ntmps12
  go_wp2_with (first | (go_at_call 35; refine (samecmds_c _ _ _ _ cmds _ (by exact s1) (rows_on2 H1.out.1 (by repeat (first | exact ext_refl _ | assumption | refine ext_more' ?_ _ _ | refine ext_drew ?_ | refine ext_drewN ?_ _ | refine ext_alloc ?_ _))) (rows_on2 H2.out.1 (by repeat (first | exact ext_refl _ | assumption | refine ext_more' ?_ _ _ | refine ext_drew ?_ | refine ext_drewN ?_ _ | refine ext_alloc ?_ _)))).mono ?_; rintro e w3 ⟨rfl, hb⟩; obtain ⟨r, d, rfl⟩ := ext_form hb; clear hb) | (go_at_call 36; refine (sameints_c _ _ _ _ tries _ (by exact s2) (rows_on2 H1.out.2.1 (by repeat (first | exact ext_refl _ | assumption | refine ext_more' ?_ _ _ | refine ext_drew ?_ | refine ext_drewN ?_ _ | refine ext_alloc ?_ _))) (rows_on2 H2.out.2.1 (by repeat (first | exact ext_refl _ | assumption | refine ext_more' ?_ _ _ | refine ext_drew ?_ | refine ext_drewN ?_ _ | refine ext_alloc ?_ _)))).mono ?_; rintro e w3 ⟨rfl, hb⟩; obtain ⟨r, d, rfl⟩ := ext_form hb; clear hb) | (go_at_call 37; refine (samekns_c _ _ _ _ known _ (by exact s3) (rows_on2 H1.out.2.2.1 (by repeat (first | exact ext_refl _ | assumption | refine ext_more' ?_ _ _ | refine ext_drew ?_ | refine ext_drewN ?_ _ | refine ext_alloc ?_ _))) (rows_on2 H2.out.2.2.1 (by repeat (first | exact ext_refl _ | assumption | refine ext_more' ?_ _ _ | refine ext_drew ?_ | refine ext_drewN ?_ _ | refine ext_alloc ?_ _)))).mono ?_; rintro e w3 ⟨rfl, hb⟩; obtain ⟨r, d, rfl⟩ := ext_form hb; clear hb) | (go_at_call 38; refine (samenums_c _ _ _ _ sigs _ (by exact s4) (rows_on2 H1.out.2.2.2.1 (by repeat (first | exact ext_refl _ | assumption | refine ext_more' ?_ _ _ | refine ext_drew ?_ | refine ext_drewN ?_ _ | refine ext_alloc ?_ _))) (rows_on2 H2.out.2.2.2.1 (by repeat (first | exact ext_refl _ | assumption | refine ext_more' ?_ _ _ | refine ext_drew ?_ | refine ext_drewN ?_ _ | refine ext_alloc ?_ _)))).mono ?_; rintro e w3 ⟨rfl, hb⟩; obtain ⟨r, d, rfl⟩ := ext_form hb; clear hb))
  go_ret
  exact ⟨rfl, by repeat (first | exact ext_refl _ | assumption | refine ext_more' ?_ _ _ | refine ext_drew ?_ | refine ext_drewN ?_ _ | refine ext_alloc ?_ _)⟩
def SomeB (e : Ending) : Prop := ∃ b, e = .returned (.bool b)
set_option maxRecDepth 100000 in
set_option maxHeartbeats 4000000 in
theorem few_calls (s : Option Addr) (cap : Nat) (l : List Ev) (w : World) (hcap : l.length ≤ cap) (hl : l.length ≤ 9223372036854775807) (hrows : Rows_ w s l.length 7 (fun i => evC (l.getD i default))) : Calls Try.prog 8 #[.slice s l.length cap] w fun e w' => SomeB e ∧ Ext w w' := by
  have HROWS := Lib.hid hrows; clear hrows
  go_enter Try.func8, Try.ntmps8
  go_wp2
  go_loopg [3] l.length (fun g k wr => ∃ (i : Nat), k = .int .i64 i ∧ g + i = l.length ∧ Ext w wr)
  case atStart => exact ⟨0, rfl, by omega, ext_refl _⟩
  case round =>
    obtain ⟨i, rfl, hgi, hx⟩ := hrel
    have HX := Lib.hid hx; clear hx
    by_cases hi : i < l.length
    · have hi3 : (i : Int) < l.length := by omega
      obtain ⟨b, o, rfl, lr, c0, c1, c2, c3, c4, c5, c6⟩ := ev_cells HROWS.out HX.out hi
      obtain ⟨ei, hei⟩ : ∃ ei, ei = l.getD i default := ⟨_, rfl⟩
      rw [← hei] at c0 c1 c2 c3 c4 c5 c6
      clear hei
      by_cases h80 : (i : Int) < 80
      · by_cases h3 : (3000 : Int) < (ei.s.size : Int)
        · go_wp2
          go_ret
          exact ⟨⟨_, rfl⟩, HX.out⟩
        · go_wp2
          go_roundg (gk - 1)
          case measure => omega
          case rel => exact ⟨i + 1, by go_num, by omega, HX.out⟩
      · go_wp2
        go_ret
        exact ⟨⟨_, rfl⟩, HX.out⟩
    · have hi3 : ¬ ((i : Int) < l.length) := by omega
      go_wp2
      go_ret
      exact ⟨⟨_, rfl⟩, HX.out⟩
end Go.Proofs.Ythpgmefjgidkgaa
