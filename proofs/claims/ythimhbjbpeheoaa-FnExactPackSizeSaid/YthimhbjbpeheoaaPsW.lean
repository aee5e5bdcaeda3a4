/- A part of the proof of 'FnExactPackSizeSaid' (PsW): lemmas on an abstract machine for the program's functions. Conditions: none. -/
import Derived.Test.YthimhbjbpeheoaaPsD
import Derived.Test.YthimhbjbpeheoaaPl
set_option linter.unusedVariables false
namespace Go.Proofs.AM
theorem p_szPtS : Sz gf_laws_szPtS (okL okPt) (wL w0) := sz_flat fun _ _ => rfl
theorem p_szTag : Sz gf_laws_szTag okTag wTag := by
  intro x n hx h0 hn
  unfold gf_laws_szTag
  refine sz_str hx.1 h0 hn fun m0 e0 a0 b0 => ?_
  rw [e0]
  refine sz_str hx.2 a0 b0 fun m1 e1 a1 b1 => ?_
  rw [e1]
  exact sz_end a1
theorem p_szShape : Sz gf_laws_szShape okShape wShape := by
  intro x n hx h0 hn
  unfold gf_laws_szShape
  refine sz_sub p_szPtS hx.2 h0 hn fun m0 a0 b0 => ?_
  exact sz_end a0
theorem p_szTagS : Sz gf_laws_szTagS (okL okTag) (wL wTag) := sz_list p_szTag (gl := gl_laws_szTagS_1) (fun _ _ => rfl) (fun _ _ _ _ => rfl) (fun _ _ => rfl)
theorem p_szFeat : Sz gf_laws_szFeat okFeat wFeat := by
  intro x n hx h0 hn
  unfold gf_laws_szFeat
  refine sz_str hx.1 h0 hn fun m0 e0 a0 b0 => ?_
  rw [e0]
  refine sz_sub p_szShape hx.2.1 a0 b0 fun m1 a1 b1 => ?_
  refine sz_sub p_szTagS hx.2.2 a1 b1 fun m2 a2 b2 => ?_
  exact sz_end a2
theorem p_szIntS : Sz gf_laws_szIntS (okL rI) (wL w0) := sz_flat fun _ _ => rfl
theorem p_toPt : Cp gf_laws_toPt w0 := fun _ _ => rfl
theorem p_toPtS : Cp gf_laws_toPtS (wL w0) := cp_list p_toPt (gl := gl_laws_toPtS_1) (fun _ _ => rfl) (fun _ _ _ _ => rfl) (fun _ => rfl)
theorem p_toTag : Cp gf_laws_toTag wTag := fun _ _ => rfl
theorem p_toShape : Cp gf_laws_toShape wShape := by
  intro x h
  unfold wShape at h
  have h0 := p_toPtS x.pts (by omega)
  simp only [gf_laws_toShape, h0, Option.bind_some]
theorem p_toTagS : Cp gf_laws_toTagS (wL wTag) := cp_list p_toTag (gl := gl_laws_toTagS_1) (fun _ _ => rfl) (fun _ _ _ _ => rfl) (fun _ => rfl)
theorem p_toFeat : Cp gf_laws_toFeat wFeat := by
  intro x h
  unfold wFeat at h
  have h1 := p_toShape x.shape (by omega)
  have h2 := p_toTagS x.tags (by omega)
  simp only [gf_laws_toFeat, h1, h2, Option.bind_some]
theorem p_toIntS : Cp gf_laws_toIntS (wL w0) := cp_list (cp_id (w := w0)) (gl := gl_laws_toIntS_1) (fun _ _ => rfl) (fun _ _ _ _ => rfl) (fun _ => rfl)
theorem p_eqPt : Eqs gf_laws_eqPt w0 := by
  intro x h
  simp [gf_laws_eqPt]
theorem p_eqPtS : Eqs gf_laws_eqPtS (wL w0) := eq_list p_eqPt (gl := gl_laws_eqPtS_1) (fun _ _ => rfl) (fun _ _ _ _ => rfl) (fun _ _ => rfl)
theorem p_eqTag : Eqs gf_laws_eqTag wTag := by
  intro x h
  simp [gf_laws_eqTag, seq_self]
theorem p_eqShape : Eqs gf_laws_eqShape wShape := by
  intro x h
  unfold wShape at h
  have h0 := p_eqPtS x.pts (by omega)
  simp [gf_laws_eqShape, h0]
theorem p_eqTagS : Eqs gf_laws_eqTagS (wL wTag) := eq_list p_eqTag (gl := gl_laws_eqTagS_1) (fun _ _ => rfl) (fun _ _ _ _ => rfl) (fun _ _ => rfl)
theorem p_eqFeat : Eqs gf_laws_eqFeat wFeat := by
  intro x h
  unfold wFeat at h
  have h1 := p_eqShape x.shape (by omega)
  have h2 := p_eqTagS x.tags (by omega)
  simp [gf_laws_eqFeat, seq_self, h1, h2]
theorem p_eqIntS : Eqs gf_laws_eqIntS (wL w0) := eq_list (eq_id (w := w0)) (gl := gl_laws_eqIntS_1) (fun _ _ => rfl) (fun _ _ _ _ => rfl) (fun _ _ => rfl)
theorem p_szChange : Sz gf_laws_szChange okChange wChange := by
  intro x n hx h0 hn
  unfold gf_laws_szChange
  refine sz_str hx.1 h0 hn fun m0 e0 a0 b0 => ?_
  rw [e0]
  refine sz_sub p_szFeat hx.2.1 a0 b0 fun m1 a1 b1 => ?_
  refine sz_sub p_szFeat hx.2.2 a1 b1 fun m2 a2 b2 => ?_
  exact sz_end a2
theorem p_szChangeS : Sz gf_laws_szChangeS (okL okChange) (wL wChange) := sz_list p_szChange (gl := gl_laws_szChangeS_1) (fun _ _ => rfl) (fun _ _ _ _ => rfl) (fun _ _ => rfl)
theorem p_szEntry : Sz gf_laws_szEntry okEntry wEntry := by
  intro x n hx h0 hn
  unfold gf_laws_szEntry
  refine sz_sub p_szIntS hx.1 h0 hn fun m0 a0 b0 => ?_
  refine sz_str hx.2.1 a0 b0 fun m1 e1 a1 b1 => ?_
  rw [e1]
  refine sz_sub p_szChangeS hx.2.2 a1 b1 fun m2 a2 b2 => ?_
  exact sz_end a2
theorem p_szEntryS : Sz gf_laws_szEntryS (okL okEntry) (wL wEntry) := sz_list p_szEntry (gl := gl_laws_szEntryS_1) (fun _ _ => rfl) (fun _ _ _ _ => rfl) (fun _ _ => rfl)
theorem p_toChange : Cp gf_laws_toChange wChange := by
  intro x h
  unfold wChange at h
  have h1 := p_toFeat x.was (by omega)
  have h2 := p_toFeat x.now (by omega)
  simp only [gf_laws_toChange, h1, h2, Option.bind_some]
theorem p_toChangeS : Cp gf_laws_toChangeS (wL wChange) := cp_list p_toChange (gl := gl_laws_toChangeS_1) (fun _ _ => rfl) (fun _ _ _ _ => rfl) (fun _ => rfl)
theorem p_toEntry : Cp gf_laws_toEntry wEntry := by
  intro x h
  unfold wEntry at h
  have h0 := p_toIntS x.up (by omega)
  have h2 := p_toChangeS x.diff (by omega)
  simp only [gf_laws_toEntry, h0, h2, Option.bind_some]
theorem p_toEntryS : Cp gf_laws_toEntryS (wL wEntry) := cp_list p_toEntry (gl := gl_laws_toEntryS_1) (fun _ _ => rfl) (fun _ _ _ _ => rfl) (fun _ => rfl)
theorem p_eqChange : Eqs gf_laws_eqChange wChange := by
  intro x h
  unfold wChange at h
  have h1 := p_eqFeat x.was (by omega)
  have h2 := p_eqFeat x.now (by omega)
  simp [gf_laws_eqChange, seq_self, h1, h2]
theorem p_eqChangeS : Eqs gf_laws_eqChangeS (wL wChange) := eq_list p_eqChange (gl := gl_laws_eqChangeS_1) (fun _ _ => rfl) (fun _ _ _ _ => rfl) (fun _ _ => rfl)
theorem p_eqEntry : Eqs gf_laws_eqEntry wEntry := by
  intro x h
  unfold wEntry at h
  have h0 := p_eqIntS x.up (by omega)
  have h2 := p_eqChangeS x.diff (by omega)
  simp [gf_laws_eqEntry, seq_self, h0, h2]
theorem p_eqEntryS : Eqs gf_laws_eqEntryS (wL wEntry) := eq_list p_eqEntry (gl := gl_laws_eqEntryS_1) (fun _ _ => rfl) (fun _ _ _ _ => rfl) (fun _ _ => rfl)
theorem pk_same : ∀ (l : List Entry) (k : Nat) (v : Int), gl_spec_PackSize_1 l k v = gl_impl_PackSize_1 l k v
  | [], k, v => rfl
  | x :: l, k, v => pk_same l (k + 1) _
theorem pk_some : ∀ (l : List Entry) (k : Nat) (v : Int), ∃ n, gl_spec_PackSize_1 l k v = some n
  | [], k, v => ⟨v, rfl⟩
  | x :: l, k, v => pk_some l (k + 1) _
theorem law_FnExactPackSize (es : List Entry) (h : okL okEntry es) : gf_laws_FnExactPackSize es = some true := by
  unfold gf_laws_FnExactPackSize
  rw [p_szEntryS es 1048576 h (by decide) (by decide)]
  simp only [Option.bind_some]
  by_cases hw : (wL wEntry es : Int) ≤ 1048576
  · have hw' : wL wEntry es ≤ 1048576 := by omega
    have hl : fits es.length = true := fits_small (by unfold wL at hw'; omega)
    obtain ⟨n, hn⟩ := pk_some es 0 0
    have hn' := hn
    rw [pk_same] at hn'
    rw [left_pos hw, if_neg (by simp; omega)]
    simp [p_toEntryS es hw', gf_spec_PackSize, gf_impl_PackSize, hl, hn, hn', p_eqEntryS es hw']
  · rw [left_neg hw]
    rfl
end Go.Proofs.AM
