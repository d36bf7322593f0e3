/- Runs, in plain: a program that begins some activities, then waits for them from the last to the first, adding them. -/
import Derived.Test.YtpfkpdimjljeaaaP10c
namespace Go.Proofs.Ytpfkpdimjljeaaa
open Go.RowKit
set_option linter.unusedVariables false
set_option linter.unusedSimpArgs false

def oneS : ByteArray := ⟨#[111, 110, 101]⟩
def actI : Ins := ⟨10, 1, 0, 0, 0, oneS⟩
def setI (m : Int) : Ins := ⟨1, 2, 0, 0, m, ⟨#[]⟩⟩
def wtI : Ins := ⟨13, 3, 2, 4, 0, ⟨#[]⟩⟩
def addI : Ins := ⟨3, 5, 5, 3, 0, ⟨#[]⟩⟩
def doneI : Ins := ⟨15, 5, 0, 0, 0, ⟨#[]⟩⟩
/-- The code when j of k have been waited for. -/
def cntL (k j : Nat) : List Ins := List.replicate k actI ++ (List.range j).flatMap (fun (q : Nat) => [setI ((k - q : Nat) : Int), wtI, addI])
def cntC (k : Nat) : List Ins := cntL k k ++ [doneI]
def valF (V : Nat → Int) (vlen m : Nat) : Int := if m ≤ vlen then V (m - 1) else m
def cntK (V : Nat → Int) (vlen k j : Nat) : List Kno := (List.range j).map (fun (q : Nat) => ⟨((k - q : Nat) : Int), ⟨((k - q : Nat) : Int) % 3, valF V vlen (k - q)⟩⟩)
def cntW (V : Nat → Int) (vlen k : Nat) : Nat → Int
  | 0 => 0
  | q + 1 => wrap64 (cntW V vlen k q + valF V vlen (k - q))
def cntCmd (j : Nat) : List Cmd := (List.range j).map (fun (i : Nat) => ⟨(i : Int) + 1, 1, oneS, 9, 0⟩)
theorem cntL_len (k : Nat) : ∀ j, (cntL k j).length = k + 3 * j
  | 0 => by simp [cntL]
  | j + 1 => by
    have := cntL_len k j
    unfold cntL at this ⊢
    rw [List.range_succ, List.flatMap_append, ← List.append_assoc, List.length_append, this]
    simp; omega
theorem cntL_succ (k j : Nat) : cntL k (j + 1) = cntL k j ++ [setI ((k - j : Nat) : Int), wtI, addI] := by
  unfold cntL
  rw [List.range_succ, List.flatMap_append, List.append_assoc]
  simp
theorem cntK_succ (V : Nat → Int) (vlen k j : Nat) : cntK V vlen k (j + 1) = cntK V vlen k j ++ [⟨((k - j : Nat) : Int), ⟨((k - j : Nat) : Int) % 3, valF V vlen (k - j)⟩⟩] := by
  unfold cntK; rw [List.range_succ, List.map_append]; rfl
theorem cntK_len (V : Nat → Int) (vlen k j : Nat) : (cntK V vlen k j).length = j := by simp [cntK]
theorem cntL_pre (k : Nat) : ∀ {i j : Nat}, i ≤ j → cntL k i <+: cntL k j := by
  intro i j h
  induction j with
  | zero => obtain rfl : i = 0 := by omega
            exact List.prefix_rfl
  | succ j ih =>
    by_cases he : i = j + 1
    · subst he; exact List.prefix_rfl
    · rw [cntL_succ]; exact (ih (by omega)).trans (List.prefix_append _ _)
theorem getD_pre {l m : List Ins} (h : l <+: m) {i : Nat} (hi : i < l.length) : m.getD i default = l.getD i default := by
  obtain ⟨t, rfl⟩ := h
  simp [List.getD, List.getElem?_append_left hi]
theorem cntC_act (k i : Nat) (h : i < k) : (cntC k).getD i default = actI := by
  have h1 : cntL k 0 <+: cntC k := (cntL_pre k (Nat.zero_le k)).trans (List.prefix_append _ _)
  rw [getD_pre h1 (by rw [cntL_len]; omega)]
  simp [cntL, List.getD, List.getElem?_replicate, h]
theorem cntC_rnd (k q c : Nat) (hq : q < k) (hc : c < 3) : (cntC k).getD (k + 3 * q + c) default = [setI ((k - q : Nat) : Int), wtI, addI].getD c default := by
  have h1 : cntL k (q + 1) <+: cntC k := (cntL_pre k (by omega : q + 1 ≤ k)).trans (List.prefix_append _ _)
  rw [getD_pre h1 (by rw [cntL_len]; omega), cntL_succ]
  have hl := cntL_len k q
  rw [List.getD, List.getElem?_append_right (by omega), hl]
  have : k + 3 * q + c - (k + 3 * q) = c := by omega
  rw [this]; rfl
theorem cntC_done (k : Nat) : (cntC k).getD (k + 3 * k) default = doneI := by
  unfold cntC
  have hl := cntL_len k k
  rw [List.getD, List.getElem?_append_right (by omega), hl, Nat.sub_self]; rfl
theorem cntC_len (k : Nat) : (cntC k).length = k + 3 * k + 1 := by unfold cntC; rw [List.length_append, cntL_len]; rfl
theorem cntC_fits (k : Nat) (len : Int) (i : Nat) (h : i < (cntC k).length) : fitsB 6 len 20 ((cntC k).getD i default) = true := by
  have hm : (cntC k).getD i default ∈ cntC k := by
    rw [List.getD, List.getElem?_eq_getElem h]; exact List.getElem_mem h
  generalize (cntC k).getD i default = x at hm
  unfold cntC cntL at hm
  simp only [List.mem_append, List.mem_flatMap, List.mem_cons, List.not_mem_nil, or_false] at hm
  rcases hm with (hm | ⟨q, _, rfl | rfl | rfl⟩) | rfl
  · rw [List.mem_replicate] at hm
    rw [hm.2]; rfl
  · rfl
  · rfl
  · rfl
  · rfl
def sumS : ByteArray := ⟨#[115, 117, 109]⟩
theorem cnt_check (k : Nat) (hk : k ≤ 20) : checkN sumS 6 (cntC k).length (fun i => (cntC k).getD i default) 20 = true := by
  have hl := cntC_len k
  unfold checkN
  simp only [Bool.and_eq_true, decide_eq_true_eq, List.all_eq_true, List.mem_range]
  refine ⟨⟨⟨⟨⟨⟨by rfl, by decide⟩, by decide⟩, by omega⟩, by omega⟩, fun i hi => cntC_fits k _ i hi⟩, ?_⟩
  rw [hl, Nat.add_sub_cancel, cntC_done]; rfl
theorem cntCmd_len (j : Nat) : (cntCmd j).length = j := by simp [cntCmd]
theorem cntCmd_succ (j : Nat) : cntCmd (j + 1) = cntCmd j ++ [⟨(j : Int) + 1, 1, oneS, 9, 0⟩] := by
  unfold cntCmd; rw [List.range_succ, List.map_append]; rfl
theorem cnt_acts (k : Nat) (hk : k ≤ 20) (look : Int → Option Out) (sg : Nat → Option Int) : ∀ j, j ≤ k → ∀ n, ∃ r : Nat → Int, r 0 = 9 ∧ r 5 = 0 ∧ runP (fun i => (cntC k).getD i default) look sg (n + j) (x0 9) = runP (fun i => (cntC k).getD i default) look sg n ⟨r, j, cntCmd j, 0, j, 0, 0, 0, 0⟩
  | 0, _, n => ⟨putR (fun _ => 0) 0 9, rfl, rfl, rfl⟩
  | j + 1, hj, n => by
    obtain ⟨r, h0, h5, hr⟩ := cnt_acts k hk look sg j (by omega) (n + 1)
    have hn : n + 1 + j = n + (j + 1) := by omega
    rw [hn] at hr
    refine ⟨putR r 1 ((j : Int) + 1), by simpa [putR] using h0, by simpa [putR] using h5, hr.trans ?_⟩
    have hi : (fun i => (cntC k).getD i default) ((⟨r, j, cntCmd j, 0, j, 0, 0, 0, 0⟩ : Rs).pc.toNat) = ⟨10, 1, 0, 0, 0, oneS⟩ := cntC_act k j (by omega)
    have hs := stepP_10b (look := look) (sg := sg) (x := (⟨r, j, cntCmd j, 0, j, 0, 0, 0, 0⟩ : Rs)) 1 0 0 0 oneS (by rw [cntCmd_len]; omega)
    rw [← hi] at hs
    rw [runP_go hs]
    congr 1
    simp only [cntCmd_len, cntCmd_succ, Int.toNat_zero, h0, Int.natCast_add, Int.natCast_one]
    rfl
theorem cnt_rounds (k : Nat) (hk : k ≤ 20) (V : Nat → Int) (vlen : Nat) (look : Int → Option Out) (sg : Nat → Option Int) (hlook : ∀ q, q < k → look ((k - q : Nat) : Int) = some ⟨((k - q : Nat) : Int) % 3, valF V vlen (k - q)⟩) (r0 : Nat → Int) (h05 : r0 5 = 0) (s0 : Nat) :
    ∀ q, q ≤ k → ∀ n, ∃ r : Nat → Int, r 5 = cntW V vlen k q ∧ runP (fun i => (cntC k).getD i default) look sg (n + 3 * q) ⟨r0, k, cntCmd k, 0, s0, 0, 0, 0, 0⟩ = runP (fun i => (cntC k).getD i default) look sg n ⟨r, (k + 3 * q : Nat), cntCmd k, 0, s0 + 3 * q, 0, 0, 0, 0⟩
  | 0, _, n => ⟨r0, h05, rfl⟩
  | q + 1, hq, n => by
    obtain ⟨r, h5, hr⟩ := cnt_rounds k hk V vlen look sg hlook r0 h05 s0 q (by omega) (n + 1 + 1 + 1)
    have hn : n + 1 + 1 + 1 + 3 * q = n + 3 * (q + 1) := by omega
    rw [hn] at hr
    have i0 : (cntC k).getD (k + 3 * q) default = ⟨1, 2, 0, 0, ((k - q : Nat) : Int), ⟨#[]⟩⟩ := cntC_rnd k q 0 (by omega) (by decide)
    have i1 : (cntC k).getD (k + 3 * q + 1) default = ⟨13, 3, 2, 4, 0, ⟨#[]⟩⟩ := cntC_rnd k q 1 (by omega) (by decide)
    have i2 : (cntC k).getD (k + 3 * q + 2) default = ⟨3, 5, 5, 3, 0, ⟨#[]⟩⟩ := cntC_rnd k q 2 (by omega) (by decide)
    have hl := hlook q (by omega)
    have hlen := cntCmd_len k
    have hkq : 1 ≤ ((k - q : Nat) : Int) ∧ ((k - q : Nat) : Int) ≤ k := by omega
    generalize hm : ((k - q : Nat) : Int) = m at *
    generalize hz : valF V vlen (k - q) = z at *
    obtain ⟨st, hst⟩ : ∃ st, st = m % 3 := ⟨_, rfl⟩
    rw [← hst] at hl
    refine ⟨putR (putR (putR (putR r 2 m) 3 z) 4 st) 5 (wrap64 (r 5 + z)), ?_, hr.trans ?_⟩
    · show wrap64 (r 5 + z) = wrap64 (cntW V vlen k q + valF V vlen (k - q)); rw [h5, hz]
    have s1 : stepP ((cntC k).getD ((⟨r, (k + 3 * q : Nat), cntCmd k, 0, s0 + 3 * q, 0, 0, 0, 0⟩ : Rs).pc.toNat) default) look sg ⟨r, (k + 3 * q : Nat), cntCmd k, 0, s0 + 3 * q, 0, 0, 0, 0⟩ = (true, ⟨putR r 2 m, (k + 3 * q : Nat) + 1, cntCmd k, 0, s0 + 3 * q, 0, 0, 0, 0⟩) := by
      show stepP ((cntC k).getD (k + 3 * q) default) look sg _ = _
      rw [i0]; exact stepP_1
    rw [runP_go (I := fun i => (cntC k).getD i default) s1]
    have s2 : stepP ((cntC k).getD ((⟨putR r 2 m, (k + 3 * q : Nat) + 1, cntCmd k, 0, s0 + 3 * q + 1, 0, 0, 0, 0⟩ : Rs).pc.toNat) default) look sg ⟨putR r 2 m, (k + 3 * q : Nat) + 1, cntCmd k, 0, s0 + 3 * q + 1, 0, 0, 0, 0⟩ = (true, ⟨putR (putR (putR r 2 m) 3 z) 4 st, (k + 3 * q : Nat) + 1 + 1, cntCmd k, 0, s0 + 3 * q + 1, 0, 0, 0, 0⟩) := by
      have hp : (((k + 3 * q : Nat) : Int) + 1).toNat = k + 3 * q + 1 := by omega
      show stepP ((cntC k).getD (((k + 3 * q : Nat) : Int) + 1).toNat default) look sg _ = _
      rw [hp, i1]
      exact stepP_13g (x := (⟨putR r 2 m, (k + 3 * q : Nat) + 1, cntCmd k, 0, s0 + 3 * q + 1, 0, 0, 0, 0⟩ : Rs)) 3 2 4 0 ⟨#[]⟩ (o := ⟨st, z⟩) ⟨hkq.1, by show m ≤ _; rw [hlen]; exact hkq.2⟩ hl
    rw [runP_go (I := fun i => (cntC k).getD i default) s2]
    have s3 : stepP ((cntC k).getD ((⟨putR (putR (putR r 2 m) 3 z) 4 st, (k + 3 * q : Nat) + 1 + 1, cntCmd k, 0, s0 + 3 * q + 1 + 1, 0, 0, 0, 0⟩ : Rs).pc.toNat) default) look sg ⟨putR (putR (putR r 2 m) 3 z) 4 st, (k + 3 * q : Nat) + 1 + 1, cntCmd k, 0, s0 + 3 * q + 1 + 1, 0, 0, 0, 0⟩ = (true, ⟨putR (putR (putR (putR r 2 m) 3 z) 4 st) 5 (wrap64 (r 5 + z)), (k + 3 * q : Nat) + 1 + 1 + 1, cntCmd k, 0, s0 + 3 * q + 1 + 1, 0, 0, 0, 0⟩) := by
      have hp : (((k + 3 * q : Nat) : Int) + 1 + 1).toNat = k + 3 * q + 2 := by omega
      show stepP ((cntC k).getD (((k + 3 * q : Nat) : Int) + 1 + 1).toNat default) look sg _ = _
      rw [hp, i2]
      exact stepP_3
    rw [runP_go (I := fun i => (cntC k).getD i default) s3]
    have e1 : ((k + 3 * q : Nat) : Int) + 1 + 1 + 1 = ((k + 3 * (q + 1) : Nat) : Int) := by omega
    have e2 : s0 + 3 * q + 1 + 1 + 1 = s0 + 3 * (q + 1) := by omega
    simp only [e1, e2]
/-- Behind the end: the sum, whatever was known besides. -/
theorem cnt_run (k : Nat) (hk : k ≤ 20) (V : Nat → Int) (vlen : Nat) (look : Int → Option Out) (sg : Nat → Option Int) (hlook : ∀ q, q < k → look ((k - q : Nat) : Int) = some ⟨((k - q : Nat) : Int) % 3, valF V vlen (k - q)⟩) :
    ∃ y : Rs, runP (fun i => (cntC k).getD i default) look sg 10000 (x0 9) = y ∧ y.st = 1 ∧ y.os = 0 ∧ y.ov = cntW V vlen k k ∧ y.cmds = cntCmd k := by
  obtain ⟨r, h0, h5, hr⟩ := cnt_acts k hk look sg k (Nat.le_refl _) (10000 - k - 3 * k - 1 + 1 + 3 * k)
  obtain ⟨r', h5', hr'⟩ := cnt_rounds k hk V vlen look sg hlook r h5 k k (Nat.le_refl _) (10000 - k - 3 * k - 1 + 1)
  have hn : 10000 - k - 3 * k - 1 + 1 + 3 * k + k = 10000 := by omega
  rw [hn, hr'] at hr
  have s1 : stepP ((cntC k).getD ((⟨r', (k + 3 * k : Nat), cntCmd k, 0, k + 3 * k, 0, 0, 0, 0⟩ : Rs).pc.toNat) default) look sg ⟨r', (k + 3 * k : Nat), cntCmd k, 0, k + 3 * k, 0, 0, 0, 0⟩ = (false, ⟨r', (k + 3 * k : Nat) + 1, cntCmd k, 0, k + 3 * k + 1, 1, 0, r' 5, 0⟩) := by
    show stepP ((cntC k).getD (k + 3 * k) default) look sg _ = _
    rw [cntC_done]; exact stepP_15
  rw [runP_stop (I := fun i => (cntC k).getD i default) s1] at hr
  exact ⟨_, hr, rfl, rfl, h5', rfl⟩
/-- Where the last one is not known. -/
theorem cnt_wait (k : Nat) (hk : k ≤ 20) (hp : 0 < k) (look : Int → Option Out) (sg : Nat → Option Int) (hlook : look (k : Int) = none) :
    ∃ y : Rs, runP (fun i => (cntC k).getD i default) look sg 10000 (x0 9) = y ∧ y.st = 2 ∧ y.on = k := by
  obtain ⟨r, h0, h5, hr⟩ := cnt_acts k hk look sg k (Nat.le_refl _) (10000 - k - 2 + 1 + 1)
  have hn : 10000 - k - 2 + 1 + 1 + k = 10000 := by omega
  rw [hn] at hr
  have i0 : (cntC k).getD k default = ⟨1, 2, 0, 0, (k : Int), ⟨#[]⟩⟩ := cntC_rnd k 0 0 hp (by decide)
  have i1 : (cntC k).getD (k + 1) default = ⟨13, 3, 2, 4, 0, ⟨#[]⟩⟩ := cntC_rnd k 0 1 hp (by decide)
  have hlen := cntCmd_len k
  have s1 : stepP ((cntC k).getD ((⟨r, k, cntCmd k, 0, k, 0, 0, 0, 0⟩ : Rs).pc.toNat) default) look sg ⟨r, k, cntCmd k, 0, k, 0, 0, 0, 0⟩ = (true, ⟨putR r 2 k, (k : Int) + 1, cntCmd k, 0, k, 0, 0, 0, 0⟩) := by
    show stepP ((cntC k).getD k default) look sg _ = _
    rw [i0]; exact stepP_1
  rw [runP_go (I := fun i => (cntC k).getD i default) s1] at hr
  have s2 : stepP ((cntC k).getD ((⟨putR r 2 k, (k : Int) + 1, cntCmd k, 0, k + 1, 0, 0, 0, 0⟩ : Rs).pc.toNat) default) look sg ⟨putR r 2 k, (k : Int) + 1, cntCmd k, 0, k + 1, 0, 0, 0, 0⟩ = (false, ⟨putR r 2 k, (k : Int) + 1 + 1, cntCmd k, 0, k + 1, 2, 0, 0, k⟩) := by
    have hp : ((k : Int) + 1).toNat = k + 1 := by omega
    show stepP ((cntC k).getD ((k : Int) + 1).toNat default) look sg _ = _
    rw [hp, i1]
    exact stepP_13n (x := (⟨putR r 2 k, (k : Int) + 1, cntCmd k, 0, k + 1, 0, 0, 0, 0⟩ : Rs)) 3 2 4 0 ⟨#[]⟩ ⟨by show (1 : Int) ≤ k; omega, by show (k : Int) ≤ _; rw [hlen]; exact Int.le_refl _⟩ hlook
  rw [runP_stop (I := fun i => (cntC k).getD i default) s2] at hr
  exact ⟨_, hr, rfl, rfl⟩
theorem cntK_once (V : Nat → Int) (vlen k : Nat) : ∀ j, j ≤ k → Once (cntK V vlen k j)
  | 0, _ => List.Pairwise.nil
  | j + 1, hj => by
    rw [cntK_succ]
    refine List.pairwise_append.2 ⟨cntK_once V vlen k j (by omega), List.pairwise_singleton _ _, fun a ha b hb => ?_⟩
    rw [List.mem_singleton] at hb
    subst hb
    unfold cntK at ha
    rw [List.mem_map] at ha
    obtain ⟨q, hq, rfl⟩ := ha
    rw [List.mem_range] at hq
    show ((k - q : Nat) : Int) ≠ ((k - j : Nat) : Int)
    omega
theorem cnt_look (V : Nat → Int) (vlen k : Nat) : ∀ q, q < k → lookK (fun i => (cntK V vlen k k).getD i default) k ((k - q : Nat) : Int) = some ⟨((k - q : Nat) : Int) % 3, valF V vlen (k - q)⟩ := by
  intro q hq
  have h := lookK_all (cntK V vlen k k)
  rw [cntK_len] at h
  rw [h]
  refine (lookL_some (cntK_once V vlen k k (Nat.le_refl _))).2 ⟨⟨((k - q : Nat) : Int), ⟨((k - q : Nat) : Int) % 3, valF V vlen (k - q)⟩⟩, ?_, rfl, rfl⟩
  unfold cntK
  exact List.mem_map.2 ⟨q, List.mem_range.2 hq, rfl⟩
theorem cnt_look1 (V : Nat → Int) (vlen k : Nat) (hp : 0 < k) : lookK (fun i => (cntK V vlen k k).getD (i + 1) default) (k - 1) (k : Int) = none := by
  unfold lookK
  have : (List.range (k - 1)).find? (fun i => decide (((cntK V vlen k k).getD (i + 1) default).n = (k : Int))) = none := by
    rw [List.find?_eq_none]
    intro i hi
    rw [List.mem_range] at hi
    simp only [decide_eq_true_eq]
    unfold cntK
    rw [List.getD, List.getElem?_map, List.getElem?_range (by omega)]
    show ¬ ((k - (i + 1) : Nat) : Int) = k
    omega
  rw [this]
end Go.Proofs.Ytpfkpdimjljeaaa
