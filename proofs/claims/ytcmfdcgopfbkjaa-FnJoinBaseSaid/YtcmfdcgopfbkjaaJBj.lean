/- A part of the proofs of this seat's statements (JBj): lemmas on an abstract machine for the program's functions. Conditions: none. -/
import Derived.Test.YtcmfdcgopfbkjaaDj
set_option linter.unusedVariables false
set_option linter.unusedSimpArgs false
set_option maxRecDepth 10000
namespace Go.Proofs.AM
theorem root_anc {cs : List Commit} (h : mCommits cs = true) : ∀ (n a : Nat), a ≤ n → a < cs.length → Anc cs a 0
  | n, 0, _, _ => .refl 0
  | 0, a + 1, h1, _ => by omega
  | n + 1, a + 1, h1, h2 => by
    obtain ⟨c, hc⟩ := getI h2
    have hu := (commits_up h hc).1
    have hlt := (up_lt hu).1
    simp only [mUp, Bool.and_eq_true, beq_iff_eq] at hu
    have h3 : decide (0 < c.up.length) = true := by rw [hu.2.2.1]; simp
    have h3 := of_decide_eq_true h3
    obtain ⟨u, hu0⟩ := getI h3
    have hm := List.mem_of_getElem? hu0
    have h4 := hlt u hm
    exact (Anc.up (.refl (a + 1)) hc hm).trans (root_anc h n u.toNat (by omega) (by omega))
theorem repo_commits {r : Repo} (h : mRepo r = true) : mCommits r.commits = true := by
  unfold mRepo at h
  simp only [Bool.and_eq_true] at h
  exact h.2.2.2.2.1
open Classical in
theorem i_RepoAhead {r : Repo} {i k : Nat} (hw : wRepo r ≤ 1048576) (hr : mRepo r = true) (hi : i < r.commits.length) (hk : k < r.commits.length) : gf_impl_RepoAhead r (i : Int) (k : Int) = some (decide (Anc r.commits k i)) := by
  have hl := repo_len hr
  unfold gf_impl_RepoAhead
  rw [i_RepoOk hw, Option.bind_some, hr, if_pos rfl, i_version (by omega), Option.bind_some, if_pos (by simp; omega), i_version (by omega), Option.bind_some, if_pos (by simp; omega), i_past (repo_hist hr) (by omega) hk, Option.bind_some, idx_nat, mark1_get hi]
  rfl
theorem downF_head {p : Nat → Bool} : ∀ {n k : Nat}, k < n → p k = true → ∃ m : Nat, (downF p n).head? = some (m : Int) ∧ m < n ∧ p m = true ∧ ∀ j : Nat, m < j → j < n → p j = false
  | 0, k, h, _ => by omega
  | n + 1, k, h, hp => by
    simp only [downF]
    by_cases hn : p n = true
    · rw [if_pos hn]
      exact ⟨n, rfl, by omega, hn, fun j h1 h2 => by omega⟩
    · rw [if_neg hn]
      have hk : k < n := by
        rcases Nat.lt_or_ge k n with h1 | h1
        · exact h1
        · have : k = n := by omega
          subst this
          exact absurd hp hn
      obtain ⟨m, h1, h2, h3, h4⟩ := downF_head hk hp
      exact ⟨m, h1, by omega, h3, fun j h5 h6 => by
        rcases Nat.lt_or_ge j n with h7 | h7
        · exact h4 j h5 h7
        · have : j = n := by omega
          subst this
          simpa using hn⟩
theorem Com_comm {cs : List Commit} {a b k : Nat} : Com cs a b k ↔ Com cs b a k := ⟨fun h => ⟨h.2, h.1⟩, fun h => ⟨h.2, h.1⟩⟩
theorem Base_comm {cs : List Commit} {a b k : Nat} : Base cs a b k ↔ Base cs b a k :=
  ⟨fun h => ⟨Com_comm.1 h.1, fun j hj => h.2 j (Com_comm.1 hj)⟩, fun h => ⟨Com_comm.1 h.1, fun j hj => h.2 j (Com_comm.1 hj)⟩⟩
theorem mBases_comm {cs : List Commit} {a b : Nat} : mBases cs a b = mBases cs b a := by
  unfold mBases
  refine downF_congr fun k _ => ?_
  exact decide_eq_decide.2 Base_comm
theorem mJoinBase_comm {r : Repo} {a b : Int} : mJoinBase r a b = mJoinBase r b a := by
  unfold mJoinBase
  rw [Bool.and_comm, mBases_comm]
theorem mJoinBase_out {r : Repo} {a b : Int} (h : ¬ (inR r a && inR r b) = true) : mJoinBase r a b = -1 := by
  unfold mJoinBase
  rw [if_neg h]
  rfl
theorem mJoinBase_in {r : Repo} {a b : Nat} (hr : mRepo r = true) (ha : a < r.commits.length) (hb : b < r.commits.length) : ∃ k : Nat, mJoinBase r a b = (k : Int) ∧ k < r.commits.length ∧ Com r.commits a b k ∧ ∀ j, k < j → ¬ Com r.commits a b j := by
  have hc := repo_hist hr
  have h1 : (inR r (a : Int) && inR r (b : Int)) = true := by unfold inR; rw [hr]; simp; omega
  have h0 : Com r.commits a b 0 := ⟨root_anc (repo_commits hr) _ a (Nat.le_refl _) ha, root_anc (repo_commits hr) _ b (Nat.le_refl _) hb⟩
  obtain ⟨i, hi, _⟩ := base_above hc _ 0 (Nat.le_refl _) h0
  have hil : i < r.commits.length := by have := hi.1.1.le hc; omega
  obtain ⟨m, m1, m2, m3, m4⟩ := downF_head (p := fun k => @decide (Base r.commits a b k) (Classical.propDecidable _)) hil (by simpa using hi)
  refine ⟨m, ?_, m2, ?_, fun j hj hcm => ?_⟩
  · unfold mJoinBase
    rw [if_pos h1]
    simp only [Int.toNat_natCast]
    unfold mBases
    rw [m1]
    rfl
  · have : Base r.commits a b m := by simpa using m3
    exact this.1
  · obtain ⟨e, he, he2⟩ := base_above hc _ j (Nat.le_refl _) hcm
    have h5 := he2.le hc
    have h6 : e < r.commits.length := by have := he.1.1.le hc; omega
    have h7 := m4 e (by omega) h6
    simp at h7
    exact h7 he
theorem joinBase_loop {r : Repo} {a b k : Nat} (hw : wRepo r ≤ 1048576) (hr : mRepo r = true) (ha : a < r.commits.length) (hb : b < r.commits.length) (hk : ∀ j, k < j → ¬ Com r.commits a b j) : ∀ (m n i : Nat), m < n → i + m = r.commits.length → k < i → gl_laws_FnJoinBase_1 (r, (a : Int), (b : Int)) n (i : Int) = some (.inr ())
  | _, 0, _, h, _, _ => by omega
  | 0, n + 1, i, h, hi, hki => by
    unfold gl_laws_FnJoinBase_1
    rw [if_neg (by simp; omega)]
  | m + 1, n + 1, i, h, hi, hki => by
    have hl := repo_len hr
    unfold gl_laws_FnJoinBase_1
    rw [if_pos (by simp; omega), i_RepoAhead hw hr (by omega) ha, Option.bind_some]
    have e : IntKind.i64.wrap ((i : Int) + 1) = ((i + 1 : Nat) : Int) := by rw [wrap_id (by omega) (by omega)]; omega
    rw [e]
    have ih := joinBase_loop hw hr ha hb hk m n (i + 1) (by omega) (by omega) (by omega)
    by_cases h1 : Anc r.commits a i
    · rw [if_pos (by simpa using h1), i_RepoAhead hw hr (by omega) hb, Option.bind_some]
      have h2 : ¬ Anc r.commits b i := fun h2 => hk i hki ⟨h1, h2⟩
      rw [if_neg (by simpa using h2)]
      exact ih
    · rw [if_neg (by simpa using h1)]
      exact ih
open Classical in
theorem law_FnJoinBase (code : List UInt8) : gf_laws_FnJoinBase code = some true := by
  unfold gf_laws_FnJoinBase
  by_cases hs : (code.length : Int) > 1048576
  · rw [if_pos (by simpa using hs)]
  rw [if_neg (by simpa using hs)]
  obtain ⟨r, a, b, h, hb⟩ := dr_JoinBase code
  have hw : wRepo r ≤ 1048576 := by have := bR_w hb; omega
  rw [h, Option.bind_some]
  simp only
  rw [i_JoinBase hw, Option.bind_some, s_JoinBase hw, Option.bind_some, if_neg (by simp), i_JoinBase hw, Option.bind_some, mJoinBase_comm (a := b) (b := a), if_neg (by simp)]
  by_cases hin : (inR r a && inR r b) = true
  · simp only [Bool.and_eq_true] at hin
    obtain ⟨hr, x, rfl, hx⟩ := inR_at hin.1
    obtain ⟨_, y, rfl, hy⟩ := inR_at hin.2
    obtain ⟨k, k1, k2, k3, k4⟩ := mJoinBase_in hr hx hy
    have hl := repo_len hr
    have e : IntKind.i64.wrap ((k : Int) + 1) = ((k + 1 : Nat) : Int) := by rw [wrap_id (by omega) (by omega)]; omega
    rw [k1, if_neg (by simp), e, joinBase_loop hw hr hx hy k4 (r.commits.length - (k + 1)) rounds (k + 1) (by unfold rounds; omega) (by omega) (by omega), Option.bind_some]
    simp only
    rw [i_RepoAhead hw hr k2 hx, Option.bind_some, if_pos (by simpa using k3.1), i_RepoAhead hw hr k2 hy, Option.bind_some, if_pos (by simpa using k3.2), i_RepoAhead hw hr hx hy, Option.bind_some]
    congr 1
    rw [beq_iff_eq, Bool.eq_iff_iff, beq_iff_eq, decide_eq_true_eq]
    constructor
    · intro h5
      have : k = x := by omega
      subst this
      exact k3.2
    · intro h5
      have h6 := k3.1.le (repo_hist hr)
      rcases Nat.lt_or_ge k x with h7 | h7
      · exact absurd ⟨.refl x, h5⟩ (k4 x h7)
      · have : k = x := by omega
        rw [this]
  · rw [mJoinBase_out hin, if_pos (by decide), if_pos (by decide), s_RepoOk hw, Option.bind_some]
    simp only [inR, Bool.and_eq_true, decide_eq_true_eq, not_and] at hin
    by_cases hr : mRepo r = true
    · rw [hr]
      by_cases h1 : a < 0
      · simp [h1]
      · by_cases h2 : b < 0
        · simp [h1, h2]
        · by_cases h3 : a ≥ (r.commits.length : Int)
          · simp [h1, h2, h3]
          · have h4 : b ≥ (r.commits.length : Int) := by
              have := hin ⟨hr, by omega, by omega⟩ hr (by omega)
              omega
            simp [h1, h2, h3, h4]
    · simp [hr]
end Go.Proofs.AM
