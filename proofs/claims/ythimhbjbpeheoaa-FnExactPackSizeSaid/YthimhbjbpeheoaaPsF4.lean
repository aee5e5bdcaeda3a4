/- A part of the proof of 'FnExactPackSizeSaid' (PsF4): lemmas on an abstract machine for the program's functions. Conditions: none. -/
import Derived.Test.YthimhbjbpeheoaaPsD
set_option linter.unusedVariables false
set_option maxRecDepth 100000
set_option maxHeartbeats 4000000
namespace Go.Proofs.AM
attribute [local irreducible] vwp vstps vstpLs vstp vdo vret kseq kblk kloop kend kcut kloop2 frzV renV
theorem d_laws_eqEntryS {G : Gam} (H_laws_eqEntry : Has G c_laws_eqEntry) (a0 : (List Entry)) (a1 : (List Entry)) (r : Bool) (h : gf_laws_eqEntryS a0 a1 = some r) : Does G if_laws_eqEntryS ks_laws_eqEntryS (c_laws_eqEntryS.args (a0, a1)) [] (c_laws_eqEntryS.ans r) := by
  refine does_pn (L := [(0, .ro (List.map (eEntry false) a0)), (1, .ro (List.map (eEntry false) a1))]) (fun bs => pin) fun bs t o => ?_
  show vwp _ ib_laws_eqEntryS _ _
  unfold ib_laws_eqEntryS
  unfold gf_laws_eqEntryS at h
  refine go ?_; intros
  refine w_cond rfl (fun c => ?_) (fun c => ?_)
  · replace h := itt h c
    try rw [c]
    refine go ?_; intros
    cases h
    exact r_end
  replace h := itf h c
  try rw [c]
  obtain ⟨hf30, h⟩ := gd h
  obtain ⟨q20, h35, h⟩ := bnd h
  refine go ?_; intros
  refine w_last (fun t o => ∃ q20_, q20 = .inr q20_ ∧ Pin t (ovr [] t) ∧ PinH o (ovh [] o)) ?_ ?_
  · refine w_loop2 (fun n t o => ∃ l24 k22  , gl_laws_eqEntryS_1 a1 l24 k22  = some q20 ∧ n = l24.length ∧ (a0).drop k22 = l24 ∧ Pin t (ovr [(0, .ro (List.map (eEntry false) a0)), (1, .ro (List.map (eEntry false) a1)), (5, .v (.int .i64 (k22 : Int)))] t) ∧ PinH o (ovh [] o)) _ ⟨_, _, h35, rfl, rfl, pin, pinh⟩ ?_
    rintro n t o ⟨l24, k22, h35, rfl, hd25, q1, q2⟩
    refine pinned q1 q2 ?_
    cases l24 with
    | nil =>
      have hge27 := drop_ge hd25
      rw [gl_laws_eqEntryS_1] at h35
      refine go ?_; intros
      rw [hge27]
      refine go ?_; intros
      cases h35
      exact k_cn ⟨_, rfl, pin, pinh⟩
    | cons x23 l24 =>
      have hlt26 := drop_lt hd25
      have hx28 := drop_ix hd25
      have hw29 := drop_wr hd25 hf30
      rw [gl_laws_eqEntryS_1] at h35
      refine go ?_; intros
      rw [hlt26]
      refine go ?_; intros
      refine r_iro rfl rfl hx28 rfl ?_
      obtain ⟨x31, h32, h35⟩ := bnd h35
      refine go ?_; intros
      refine r_iro rfl rfl h32 rfl ?_
      obtain ⟨x33, h34, h35⟩ := bnd h35
      refine go ?_; intros
      refine c_call (c := c_laws_eqEntry) (x23, x31) H_laws_eqEntry h34 fun ch => ?_
      refine go ?_; intros
      refine w_cond rfl (fun c => ?_) (fun c => ?_)
      · replace h35 := itt h35 c
        try rw [c]
        refine go ?_; intros
        cases h35
        replace h : some _ = some _ := h
        cases h
        exact r_end
      replace h35 := itf h35 c
      try rw [c]
      refine go ?_; intros
      rw [hw29]
      exact k_ln2 _ (Nat.lt_succ_self _) ⟨_, _, h35, rfl, drop_next hd25, pin, pinh⟩
  rintro t o ⟨q20, rfl, q1, q2⟩
  refine pinnedQ q1 q2 ?_
  refine go ?_; intros
  cases h
  exact r_end
theorem d_laws_FnExactPackSize {G : Gam} (H_laws_szEntryS : Has G c_laws_szEntryS) (H_laws_toEntryS : Has G c_laws_toEntryS) (H_spec_PackSize : Has G c_spec_PackSize) (H_impl_PackSize : Has G c_impl_PackSize) (H_laws_eqEntryS : Has G c_laws_eqEntryS) (a0 : (List Entry)) (r : Bool) (h : gf_laws_FnExactPackSize a0 = some r) : Does G if_laws_FnExactPackSize ks_laws_FnExactPackSize (c_laws_FnExactPackSize.args (a0)) [] (c_laws_FnExactPackSize.ans r) := by
  refine does_pn (L := [(0, .ro (List.map (eEntry false) a0))]) (fun bs => pin) fun bs t o => ?_
  show vwp _ ib_laws_FnExactPackSize _ _
  unfold ib_laws_FnExactPackSize
  unfold gf_laws_FnExactPackSize at h
  obtain ⟨x1, h2, h⟩ := bnd h
  refine go ?_; intros
  refine c_call (c := c_laws_szEntryS) (a0, 1048576) H_laws_szEntryS h2 fun ch => ?_
  refine go ?_; intros
  refine w_cond rfl (fun c => ?_) (fun c => ?_)
  · replace h := itt h c
    try rw [c]
    refine go ?_; intros
    cases h
    exact r_end
  replace h := itf h c
  try rw [c]
  obtain ⟨x3, h4, h⟩ := bnd h
  refine go ?_; intros
  refine c_call (c := c_laws_toEntryS) (a0) H_laws_toEntryS h4 fun ch => ?_
  obtain ⟨x7, h8, h⟩ := bnd h
  refine go ?_; intros
  refine c_call (c := c_spec_PackSize) (x3) H_spec_PackSize h8 fun ch => ?_
  obtain ⟨x9, h10, h⟩ := bnd h
  refine go ?_; intros
  refine c_call (c := c_laws_toEntryS) (a0) H_laws_toEntryS h10 fun ch => ?_
  obtain ⟨x13, h14, h⟩ := bnd h
  refine go ?_; intros
  refine c_call (c := c_impl_PackSize) (x9) H_impl_PackSize h14 fun ch => ?_
  refine go ?_; intros
  refine w_cond rfl (fun c => ?_) (fun c => ?_)
  · replace h := itt h c
    try rw [c]
    refine go ?_; intros
    cases h
    exact r_end
  replace h := itf h c
  try rw [c]
  obtain ⟨x15, h16, h⟩ := bnd h
  refine go ?_; intros
  refine c_call (c := c_laws_toEntryS) (a0) H_laws_toEntryS h16 fun ch => ?_
  obtain ⟨x19, h20, h⟩ := bnd h
  refine go ?_; intros
  refine c_call (c := c_laws_eqEntryS) (x9, x15) H_laws_eqEntryS h20 fun ch => ?_
  refine go ?_; intros
  refine w_cond rfl (fun c => ?_) (fun c => ?_)
  · replace h := itt h c
    try rw [c]
    refine go ?_; intros
    cases h
    exact r_end
  replace h := itf h c
  try rw [c]
  refine go ?_; intros
  cases h
  exact r_end
end Go.Proofs.AM
