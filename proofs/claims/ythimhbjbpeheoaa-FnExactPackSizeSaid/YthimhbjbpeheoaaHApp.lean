/- A part of the proof of 'FnExactPackSizeSaid' (HApp): lemmas on an abstract machine for the program's functions. Conditions: none. -/
import Derived.Test.YthimhbjbpeheoaaHLoad
import Derived.Maps.AppendAt
set_option linter.unusedVariables false
set_option linter.unusedSimpArgs false
namespace Go.Proofs.AM
open Go.RowKit
variable {P : Program} {tb : Tab} {F K : Nat → Prop} {w : World}
theorem OWrows_flat {cur : Array Value} {k : Nat} : ∀ {rows : Rows} {i : Nat} {f : List Nat}, OWrows tb F w cur k i rows f ↔ (∀ r ∈ rows, r.length = esz k) ∧ OWcells tb F w cur (i * esz k) rows.flatten f
  | [], i, f => by simp [OWrows, OWcells]
  | r :: rs, i, f => by
    simp only [OWrows, List.flatten_cons, List.mem_cons, forall_eq_or_imp]
    constructor
    · rintro ⟨f1, f2, rfl, h1, h2, h3⟩
      obtain ⟨h4, h5⟩ := OWrows_flat.1 h3
      refine ⟨⟨h1, h4⟩, OWcells_append.2 ⟨f1, f2, rfl, h2, ?_⟩⟩
      rw [h1]
      rw [Nat.add_mul, Nat.one_mul] at h5
      exact h5
    · rintro ⟨⟨h1, h4⟩, h5⟩
      obtain ⟨f1, f2, rfl, h2, h3⟩ := OWcells_append.1 h5
      refine ⟨f1, f2, rfl, h1, h2, OWrows_flat.2 ⟨h4, ?_⟩⟩
      rw [h1] at h3
      rw [Nat.add_mul, Nat.one_mul]
      exact h3
theorem flatten_len {k : Nat} : ∀ {rows : Rows}, (∀ r ∈ rows, r.length = k) → rows.flatten.length = rows.length * k
  | [], _ => by simp
  | r :: rs, h => by
    rw [List.flatten_cons, List.length_append, h r (by simp), flatten_len (fun q hq => h q (by simp [hq])), List.length_cons, Nat.add_mul]
    omega
theorem plain_cell {c : T} {u : Value} (hp : (match c with | .v _ => true | .sl false _ _ => true | _ => false) = true) (h : ROc F w c u) : OWc tb F w c u [] := by
  cases c with
  | v x => simp only [ROc] at h; simp only [OWc]; exact ⟨h.1, h.2, trivial⟩
  | sl own k rows =>
    cases own
    · simp only [ROc] at h
      simp only [OWc]
      exact ⟨trivial, h⟩
    · cases hp
  | _ => cases hp
theorem ROcells_l (ad : Addr) : ∀ {cs : List T} {p : Nat}, (cs.all fun | .v _ => true | .sl false _ _ => true | _ => false) = true → ROcells F w ad p cs → ∃ us, OWl tb F w cs us [] ∧ ∀ j v, us[j]? = some v → w.cell? (ad.add (p + j)) = some v
  | [], p, _, _ => ⟨[], by simp [OWl], by simp⟩
  | c :: cs, p, hp, h => by
    simp only [List.all_cons, Bool.and_eq_true] at hp
    simp only [ROcells] at h
    obtain ⟨⟨u, h1, h2⟩, h3⟩ := h
    obtain ⟨us, h4, h5⟩ := ROcells_l ad hp.2 h3
    refine ⟨u :: us, by simp only [OWl]; exact ⟨u, us, [], [], rfl, rfl, plain_cell hp.1 h2, h4⟩, fun j v hj => ?_⟩
    cases j with
    | zero => simp at hj; subst hj; simpa using h1
    | succ j => simp at hj; have := h5 j v hj; rwa [show p + (j + 1) = p + 1 + j by omega]
theorem ROrows_l {e : Nat} (ad : Addr) : ∀ {rows : Rows} {i : Nat}, plain rows = true → ROrows F w e (some ad) i rows → (∀ r ∈ rows, r.length = e) ∧ ∃ us, OWl tb F w rows.flatten us [] ∧ ∀ j v, us[j]? = some v → w.cell? (ad.add (i * e + j)) = some v
  | [], i, _, _ => ⟨by simp, [], by simp [OWl], by simp⟩
  | r :: rs, i, hp, h => by
    simp only [plain, List.all_cons, Bool.and_eq_true] at hp
    simp only [ROrows] at h
    obtain ⟨h1, ⟨ad', h2, h3, h4⟩, h5⟩ := h
    cases h2
    obtain ⟨us, k1, k2⟩ := ROcells_l (tb := tb) ad hp.1 h4
    obtain ⟨k3, vs, k4, k5⟩ := ROrows_l ad (by simpa [plain] using hp.2) h5
    have hl := OWl_length k1
    refine ⟨by simp only [List.mem_cons, forall_eq_or_imp]; exact ⟨h1, k3⟩, us ++ vs, by simpa using OWl_append k1 k4, fun j v hj => ?_⟩
    by_cases hlt : j < us.length
    · rw [List.getElem?_append_left hlt] at hj
      exact k2 j v hj
    · rw [List.getElem?_append_right (by omega)] at hj
      have := k5 _ v hj
      rw [hl, h1] at this
      rw [Nat.add_mul, Nat.one_mul] at this
      rwa [show i * e + j = i * e + e + (j - e) by omega]
structure SrcRel (tb : Tab) (F : Nat → Prop) (w : World) (k : Nat) (ys : Rows) (u : Value) (f : List Nat) : Prop where
  ex : ∃ A c us, u = .slice A ys.length c ∧ (∀ r ∈ ys, r.length = esz k) ∧ OWl tb F w ys.flatten us f ∧ (0 < ys.length → ∃ ad, A = some ad ∧ ∀ j v, us[j]? = some v → w.cell? (ad.add j) = some v)
theorem appSrc_sound {k : Nat} {mv : Bool} {host : Option Nat} {x : AV} {ys : Rows} {o o' : Heap} {fps : Nat → List Nat} {fl : List Nat} {u : Value} (h : (appSrc k mv host x).run o = some (ys, o')) (hr : HRel tb F K o fps fl w) (hx : RelV tb F w x u) :
    ∃ f fps', SrcRel tb F w k ys u f ∧ HRel tb F K o' fps' (f ++ fl) w ∧ (∀ n, host = some n → o' n = o n ∧ fps' n = fps n) := by
  unfold appSrc at h
  split at h
  · simp only [run_ret2] at h
    obtain ⟨rfl, rfl⟩ := h
    simp only [RelV] at hx
    exact ⟨[], fps, ⟨none, 0, [], by simpa using hx, by simp, by simp [OWl], by simp⟩, by simpa using hr, fun _ _ => ⟨rfl, rfl⟩⟩
  · rename_i rows
    simp only [run_needb, run_ret2, Bool.and_eq_true, decide_eq_true_eq] at h
    obtain ⟨⟨hp, he⟩, rfl, rfl⟩ := h
    simp only [RelV] at hx
    obtain ⟨A, cap, e, rfl, hcap, hro⟩ := hx
    cases rows with
    | nil => exact ⟨[], fps, ⟨A, cap, [], rfl, by simp, by simp [OWl], by simp⟩, by simpa using hr, fun _ _ => ⟨rfl, rfl⟩⟩
    | cons r rs =>
      have hro' := hro
      simp only [ROrows] at hro'
      obtain ⟨h1, ⟨ad, rfl, _, _⟩, _⟩ := hro'
      obtain ⟨k1, us, k2, k3⟩ := ROrows_l (tb := tb) ad hp hro
      have hee : e = esz k := by simp at he; rw [← h1, he]
      subst hee
      exact ⟨[], fps, ⟨some ad, cap, us, rfl, k1, k2, fun _ => ⟨ad, rfl, by simpa using k3⟩⟩, by simpa using hr, fun _ _ => ⟨rfl, rfl⟩⟩
  · rename_i n b cap off len k'
    simp only [run_askb, run_needb, Bool.and_eq_true, decide_eq_true_eq, Bool.not_eq_true'] at h
    obtain ⟨e, he, ⟨⟨⟨⟨⟨⟨q1, q2⟩, q3⟩, q4⟩, q5⟩, q6⟩, q7⟩, h⟩ := h
    subst q4
    subst q3
    simp only [RelV, Hdr] at hx
    obtain ⟨A, rfl, hcap, hb, hA⟩ := hx
    have hE := hr.ents n e he
    have hlen : ((e.rows.drop off).take len).length = len := by rw [List.length_take, List.length_drop]; omega
    have key : ∃ us f2, (∀ r ∈ (e.rows.drop off).take len, r.length = esz e.k) ∧ OWl tb F w ((e.rows.drop off).take len).flatten us f2 ∧ (∀ b, b ∈ f2 → b ∈ fps n) ∧ f2.Nodup ∧
        (0 < len → ∃ ad, A = some ad ∧ ∀ j v, us[j]? = some v → w.cell? (ad.add j) = some v) := by
      unfold OWe at hE
      cases heb : e.b with
      | none =>
        rw [heb] at hE
        obtain ⟨e1, e2, e3, e4⟩ := hE
        have hl0 : len = 0 := by rw [e1] at q5; simp at q5; omega
        subst hl0
        exact ⟨[], [], by simp, by simp [OWl], by simp, by simp, by simp⟩
      | some g =>
        rw [heb] at hE
        obtain ⟨cur, f0, e1, e2, e3, e4, e5, e6⟩ := hE
        rw [← List.take_append_drop off e.rows] at e6
        obtain ⟨fA, f1, rfl, hA1, hA2⟩ := OWrows_append.1 e6
        rw [← List.take_append_drop len (e.rows.drop off)] at hA2
        obtain ⟨fM, fB, rfl, hM, hB⟩ := OWrows_append.1 hA2
        have hlo : (e.rows.take off).length = off := by rw [List.length_take]; omega
        rw [hlo] at hM
        simp only [Nat.zero_add] at hM
        obtain ⟨m1, m2⟩ := OWrows_flat.1 hM
        obtain ⟨us, m3, m4⟩ := OWcells_l m2
        refine ⟨us, fM, m1, m3, fun x hx => by rw [e5]; simp [hx], ?_, fun hpos => ?_⟩
        · have := hr.nd n
          rw [e5, nodup_count] at this
          rw [nodup_count]
          intro x
          have := this x
          simp only [List.count_cons, List.count_append] at this
          omega
        · rcases hA with rfl | hA
          · rw [← q1, heb]
            refine ⟨_, rfl, fun j v hj => ?_⟩
            rw [add_mk, cell_of_row w g _ cur _ _ e1]
            exact m4 j v hj
          · omega
    obtain ⟨us, f2, z1, z2, z3, z4, z5⟩ := key
    have hsr : ∀ f, f = f2 → SrcRel tb F w e.k ((e.rows.drop off).take len) (.slice A len (cap - off)) f := fun f hf => by
      subst hf
      exact ⟨A, cap - off, us, by rw [hlen], z1, z2, by rw [hlen]; exact z5⟩
    split at h
    · simp only [run_layb, run_ret2] at h
      obtain ⟨rfl, rfl⟩ := h
      have ht := hr.take n
      refine ⟨f2, _, hsr _ rfl, ht.sub (fun x hx => ?_) ?_, fun m hm => ?_⟩
      · rcases List.mem_append.1 hx with hx | hx
        · exact List.mem_append_left _ (z3 x hx)
        · exact List.mem_append_right _ hx
      · rw [List.nodup_append]
        exact ⟨z4, hr.fnd, fun x hx y hy hxy => hr.fdj n y hy (hxy ▸ z3 x hx)⟩
      · have hne : m ≠ n := fun e => q7 (by rw [hm, e])
        exact ⟨upd_ne _ _ hne, updF_ne _ _ hne⟩
    · simp only [run_needb, run_ret2] at h
      obtain ⟨hp, rfl, rfl⟩ := h
      have hf2 : OWl tb F w ((e.rows.drop off).take len).flatten us [] := by
        have gen : ∀ {cs : List T} {us : List Value} {f : List Nat}, (cs.all fun | .v _ => true | .sl false _ _ => true | _ => false) = true → OWl tb F w cs us f → OWl tb F w cs us [] := by
          intro cs
          induction cs with
          | nil => intro us f _ h; simp only [OWl] at h ⊢; exact ⟨h.1, trivial⟩
          | cons c cs ih =>
            intro us f hp h
            simp only [List.all_cons, Bool.and_eq_true] at hp
            simp only [OWl] at h ⊢
            obtain ⟨u, us', f1, f2, rfl, rfl, h1, h2⟩ := h
            refine ⟨u, us', [], [], rfl, rfl, ?_, ih hp.2 h2⟩
            cases c with
            | v y => simp only [OWc] at h1 ⊢; exact ⟨h1.1, h1.2.1, trivial⟩
            | sl own k rows =>
              cases own
              · simp only [OWc] at h1 ⊢; exact ⟨trivial, h1.2⟩
              · exact absurd hp.1 (by simp)
            | _ => exact absurd hp.1 (by simp)
        refine gen ?_ z2
        rw [List.all_flatten]
        exact hp
      exact ⟨[], fps, ⟨A, cap - off, us, by rw [hlen], z1, hf2, by rw [hlen]; exact z5⟩, by simpa using hr, fun _ _ => ⟨rfl, rfl⟩⟩
  · simp only [run_fail] at h
theorem own_nil0 (w : World) (e : TypeId) (size : Nat) : w.ownsRow 0 e size (.slice none 0 0) ([] : Rows).length [] := World.ownsRow_nil w 0 e size
def fpOf (ob : Option Nat) (f : List Nat) : List Nat := match ob with
  | none => []
  | some g => g :: f
theorem app_core {ty el : TypeId} {k : Nat} (hel : elOf P ty = some el) (hk : kOk P tb el k = true) (hby : byOk P el = true) (o : TypeId) {v u : Value} {rows0 ys : Rows} {xs : List Value} {f0 f : List Nat}
    (hown : w.ownsRow 0 el (esz k) v rows0.length xs) (hl0 : ∀ r ∈ rows0, r.length = esz k) (hx0 : OWl tb F w rows0.flatten xs f0) (hs : SrcRel tb F w k ys u f) (hm : rows0.length + ys.length ≤ 4294967296)
    (hF : ∀ b, F b → b < w.heap.size ∧ v.ownBlock ≠ some b) (hf : ∀ b, b ∈ f0 ∨ b ∈ f → b < w.heap.size ∧ v.ownBlock ≠ some b) :
    ∃ v' w', (Builtin.append_ #[ty, ty] o #[v, u]).run P w = .ok v' w' ∧ Hdr (hdrOf v').1 k 0 (rows0.length + ys.length) (hdrOf v').2 v' ∧
      OWe tb F w' { b := (hdrOf v').1, cap := (hdrOf v').2, k := k, box := false, rows := rows0 ++ ys } (fpOf (hdrOf v').1 (f0 ++ f)) ∧
      w.grownBy w' v.ownBlock ∧ (v'.ownBlock = v.ownBlock ∨ v'.ownBlock = some w.heap.size) ∧ v'.ownBlock = (hdrOf v').1 := by
  obtain ⟨hk1, hk2, hk3⟩ := k_of hk
  obtain ⟨i, z0, hi, hz0, hzs, hb1, hb2⟩ := by_of hby
  have hisz : i.size = esz k := by simpa [szOf, hi] using hk2
  obtain ⟨A, c, us, rfl, hly, hys, hcells⟩ := hs.ex
  have hlen1 := OWl_length hys
  have hlen2 := flatten_len hly
  have hrun : ∃ v' w', (Builtin.append_ #[ty, ty] o #[v, .slice A ys.length c]).run P w = .ok v' w' ∧ w'.ownsRow 0 el (esz k) v' (rows0.length + ys.length) (xs ++ us) ∧ w.grownBy w' v.ownBlock ∧ (v'.ownBlock = v.ownBlock ∨ v'.ownBlock = some w.heap.size) := by
    by_cases h0 : ys.length = 0
    · have hus : us = [] := List.eq_nil_of_length_eq_zero (by rw [hlen1, hlen2, h0]; simp)
      subst hus
      refine ⟨v, w, ?_, by simpa [h0] using hown, ⟨rfl, rfl, rfl, Nat.le_refl _, fun _ _ _ => rfl⟩, .inl rfl⟩
      have hfc : (Builtin.firstCells (esz k) 0 (.slice A 0 c)).run P w = .ok #[] w := by
        cases A <;> simp [Builtin.firstCells, loadCells, loadCellsFrom]
      rcases hown.2 with ⟨rfl, hn⟩ | ⟨g, cap, cur, rfl, _, _, hnc, _⟩
      · simp [Builtin.append_, run_underlying (el_of hel), sizeOf_run hk2, Builtin.lenOf, h0, hfc]
      · simp [Builtin.append_, run_underlying (el_of hel), sizeOf_run hk2, Builtin.lenOf, h0, hfc, hnc, storeCells]
    · obtain ⟨ad, rfl, hcell⟩ := hcells (by omega)
      obtain ⟨v', w', h1, h2, h3, h4, h5⟩ := run_append_own_at (P := P) w 0 ty o el i z0 (esz k) i.bytes (el_of hel) hi hz0 hisz rfl (by rw [hzs, hisz]) hk3 v rows0.length xs hown ad ys.length c us (by rw [hlen1, hlen2]) hcell (OWl_one hys)
        (by simp only [maxLen]; omega) (Nat.le_trans (Nat.mul_le_mul hm hb2) (by decide)) (Nat.zero_le _)
      exact ⟨v', w', h1, h2, h3, h5⟩
  obtain ⟨v', w', h1, h2, h3, h5⟩ := hrun
  refine ⟨v', w', h1, ?_⟩
  have hFk : ∀ b, F b → w'.heap[b]? = w.heap[b]? := fun b hb => h3.block b (hF b hb).1 (Ne.symm (hF b hb).2)
  have hfk : ∀ b, b ∈ f0 ∨ b ∈ f → w'.heap[b]? = w.heap[b]? := fun b hb => h3.block b (hf b hb).1 (Ne.symm (hf b hb).2)
  have hall : OWl tb F w' (rows0 ++ ys).flatten (xs ++ us) (f0 ++ f) := by
    rw [List.flatten_append]
    exact OWl_append (OWl_keep hFk (fun _ h => h) (fun b hb => hfk b (.inl hb)) hx0) (OWl_keep hFk (fun _ h => h) (fun b hb => hfk b (.inr hb)) hys)
  have hlall : ∀ r ∈ rows0 ++ ys, r.length = esz k := fun r hr => by
    rcases List.mem_append.1 hr with hr | hr
    · exact hl0 r hr
    · exact hly r hr
  rcases h2.2 with ⟨rfl, hn⟩ | ⟨g, cap, cur, rfl, _, hg, hnc, hcm, hcs, htake⟩
  · have e1 : rows0 = [] := List.eq_nil_of_length_eq_zero (by omega)
    have e2 : ys = [] := List.eq_nil_of_length_eq_zero (by omega)
    subst e1
    subst e2
    refine ⟨⟨none, rfl, by simp [hdrOf], by simp [hdrOf], .inl (by simp [hdrOf])⟩, ?_, h3, h5, rfl⟩
    unfold OWe
    exact ⟨rfl, rfl, rfl, rfl⟩
  · refine ⟨⟨some ⟨g, 0, none⟩, rfl, (by show 0 + (rows0.length + ys.length) ≤ cap; omega), by simp [hdrOf], .inl (by simp [hdrOf])⟩, ?_, h3, h5, rfl⟩
    unfold OWe
    refine ⟨cur, f0 ++ f, by rw [hk1]; exact hg, hcs, (by show (rows0 ++ ys).length ≤ cap; rw [List.length_append]; exact hnc), hcm, rfl, OWrows_flat.2 ⟨hlall, ?_⟩⟩
    simp only [Nat.zero_mul]
    refine OWl_cells hall (fun j q hj => ?_)
    rw [← htake] at hj
    simp only [Nat.zero_add]
    rw [List.getElem?_take] at hj
    split at hj
    · simpa using hj
    · cases hj
theorem HRel.grow {o : Heap} {fps : Nat → List Nat} {fl0 f : List Nat} {ob ob' : Option Nat} {w' : World} (h : HRel tb F K o fps fl0 w) (hF : ∀ k, K k → k < w.heap.size) (hg : w.grownBy w' ob) (hob : ∀ g, ob = some g → g ∈ fl0 ∧ g ∉ f) (hf : ∀ b, b ∈ f → b ∈ fl0) (hfn : f.Nodup) (ho' : ob' = ob ∨ ob' = some w.heap.size) (hlt : ∀ g, ob' = some g → g < w'.heap.size) :
    HRel tb F K o fps (fpOf ob' f) w' := by
  have hk : ∀ b, b < w.heap.size → ob ≠ some b → w'.heap[b]? = w.heap[b]? := fun b hb hn => hg.block b hb (Ne.symm hn)
  have hst := h.step (w' := w') hg.size (fun b hb => hk b (hF b (h.kp b hb)) (fun e => (h.flv b (hob b e).1).2 (h.kp b hb))) (fun n b hb => hk b (h.lv n b hb).1 (fun e => h.fdj n b (hob b e).1 hb))
  cases ob' with
  | none => exact hst.sub (by simp [fpOf]) (by simp [fpOf])
  | some g =>
    show HRel tb F K o fps (g :: f) w'
    rcases ho' with e | e
    · refine hst.sub (fun b hb => ?_) ?_
      · rcases List.mem_cons.1 hb with rfl | hb
        · exact (hob _ e.symm).1
        · exact hf b hb
      · rw [List.nodup_cons]
        exact ⟨(hob _ e.symm).2, hfn⟩
    · cases e
      have hsz : w.heap.size < w'.heap.size := hlt _ rfl
      refine ⟨hst.kp, hst.ents, hst.nil, hst.nd, hst.dj, hst.lv, ?_, ?_, ?_⟩
      · rw [List.nodup_cons]
        exact ⟨fun hc => by have := (h.flv _ (hf _ hc)).1; omega, hfn⟩
      · intro n b hb
        rcases List.mem_cons.1 hb with rfl | hb
        · exact fun hc => by have := (h.lv n _ hc).1; omega
        · exact h.fdj n b (hf b hb)
      · intro b hb
        rcases List.mem_cons.1 hb with rfl | hb
        · exact ⟨hsz, fun hc => by have := hF _ hc; omega⟩
        · exact ⟨Nat.lt_trans (h.flv b (hf b hb)).1 hsz, (h.flv b (hf b hb)).2⟩
theorem OWe_lt {e : Ent} {fp : List Nat} (h : OWe tb F w e fp) : ∀ g, e.b = some g → g < w.heap.size := by
  intro g hg
  unfold OWe at h
  rw [hg] at h
  obtain ⟨cur, f0, e1, _⟩ := h
  exact (Array.getElem?_eq_some_iff.1 e1).1
section
variable {G : Gam} {d : Nat} {o : Oper} {t : Tm} {a : Act} {hp hp' : Heap} {fps : Nat → List Nat} {x : AV}
theorem s_app {k : Nat} {mv : Bool} {y z : Od} (hc : chkOp P tb o.op (.app k mv y z) = true) (r : RelT tb F w t a) (hr : HRel tb F K hp fps [] w) (hF : ∀ k, K k → k < w.heap.size) :
    ∃ ch : Ch, ∀ x hp', (opSem G d ch t (.app k mv y z)).run hp = some (x, hp') → HRun P tb F K w fps o a x hp' := by
  cases ho : o.op <;> rw [ho] at hc <;> simp only [chkOp, Bool.false_eq_true] at hc
  rename_i c
  split at hc
  · rename_i y' z' ty ty' h1 h2 h3
    simp only [Bool.and_eq_true, decide_eq_true_eq] at hc
    obtain ⟨⟨⟨rfl, h0⟩, hy⟩, hz⟩ := hc
    split at h0
    · rename_i el hel
      simp only [Bool.and_eq_true] at h0
      obtain ⟨hk, hby⟩ := h0
      have r1 := od_sound r hy
      have r2 := od_sound r hz
      have ht : c.argTypes = #[ty, ty] := by apply Array.ext'; simpa using h3
      have ha : c.args.map a.eval = #[a.eval y', a.eval z'] := by apply Array.ext'; simp [h2]
      have hr' : ∀ v w', (Builtin.append_ #[ty, ty] o.type #[a.eval y', a.eval z']).run P w = .ok v w' → (execOp a.eval o).run P w = .ok (.value v) w' := by
        intro v w' hv
        unfold execOp
        rw [ho]
        simp [resolve, h1, invoke, builtin, ha, ht, hv]
      cases hev : ev t y with
      | nil =>
        rw [hev] at r1
        simp only [RelV] at r1
        by_cases hex : ∃ ys o1 f fps1, (appSrc k mv none (ev t z)).run hp = some (ys, o1) ∧ ys.length ≤ most ∧ SrcRel tb F w k ys (a.eval z') f ∧ HRel tb F K o1 fps1 (f ++ []) w
        · obtain ⟨ys, o1, f, fps1, e1, e2, e3, e4⟩ := hex
          obtain ⟨v', w', g1, g2, g3, g4, g5, g6⟩ := app_core (F := F) hel hk hby o.type (v := .slice none 0 0) (rows0 := []) (xs := []) (f0 := []) (own_nil0 w el (esz k)) (by simp) (by simp [OWl]) e3 (by simpa [most] using e2) (fun b hb => ⟨hF b (hr.kp b hb), by simp [Value.ownBlock]⟩)
            (fun b hb => by
              rcases hb with hb | hb
              · simp at hb
              · exact ⟨(e4.flv b (by simp [hb])).1, by simp [Value.ownBlock]⟩)
          refine ⟨fun _ => hdrOf v', fun x hp' h => ?_⟩
          simp only [opSem, hev] at h
          obtain ⟨ys', o1', h4, h⟩ := run_bind.1 h
          rw [e1] at h4
          cases h4
          simp only [run_needb, run_layb, run_ret2] at h
          obtain ⟨_, rfl, rfl⟩ := h
          rw [← r1] at g1
          have hkeep : ∀ b, b < w.heap.size → w'.heap[b]? = w.heap[b]? := fun b hb => g4.block b hb (by simp [Value.ownBlock])
          have hst := e4.step (w' := w') g4.size (fun b hb => hkeep b (hF b (hr.kp b hb))) (fun n b hb => hkeep b (e4.lv n b hb).1)
          have hgr := e4.grow hF g4 (by simp [Value.ownBlock]) (ob' := (hdrOf v').1) (f := [] ++ f) (by simp) (by simpa using (List.nodup_append.1 e4.fnd).1) (by rw [← g6]; exact g5) (OWe_lt g3)
          refine ⟨.value v', w', updF fps1 (d * 8) (fpOf (hdrOf v').1 ([] ++ f)), hr' _ _ g1, .inl ⟨_, rfl, by simp only [RelV]; simpa using g2⟩, HRel.put (fl := []) (by simpa only [List.append_nil] using hgr) _ (by simpa only [List.nil_append] using g3), ⟨g4.os, g4.tape, g4.output, g4.size, fun b hb _ => hkeep b hb⟩⟩
        · refine ⟨fun _ => (none, 0), fun x hp' h => ?_⟩
          simp only [opSem, hev] at h
          obtain ⟨ys, o1, h4, h⟩ := run_bind.1 h
          simp only [run_needb, decide_eq_true_eq] at h
          obtain ⟨f, fps1, q1, q2, _⟩ := appSrc_sound h4 hr r2
          exact absurd ⟨ys, o1, f, fps1, h4, h.1, q1, q2⟩ hex
      | ref n b cap off len k' =>
        rw [hev] at r1
        simp only [RelV] at r1
        by_cases hex : ∃ ys o1, (appSrc k mv (some n) (ev t z)).run hp = some (ys, o1) ∧ ∃ e, o1 n = some e ∧ e.b = b ∧ e.cap = cap ∧ off = 0 ∧ len ≤ e.rows.length ∧ e.box = false ∧ e.k = k ∧ k' = k ∧ len + ys.length ≤ most
        · obtain ⟨ys, o1, h4, e, he, q1, q2, q3, q4, q5, q6, q7, q8⟩ := hex
          obtain ⟨f, fps1, e3, e4, e5⟩ := appSrc_sound h4 hr r2
          subst q3
          subst q7
          subst q2
          subst q1
          have hE := e4.ents n e he
          have ht := e4.take n
          obtain ⟨A, hv, hcap, hbn, hA⟩ := r1
          have hA' : A = e.b.map (fun g => (⟨g, 0, none⟩ : Addr)) := by
            rcases hA with hA | hA
            · simpa using hA
            · omega
          obtain ⟨hk1, hk2, hk3⟩ := k_of hk
          have hblk : (a.eval y').ownBlock = e.b := by
            rw [hv, hA']
            cases e.b <;> rfl
          have hcore : ∃ xs f0, w.ownsRow 0 el (esz k') (a.eval y') (e.rows.take len).length xs ∧ (∀ r ∈ e.rows.take len, r.length = esz k') ∧ OWl tb F w (e.rows.take len).flatten xs f0 ∧ (∀ b, b ∈ f0 → b ∈ fps1 n) ∧ f0.Nodup ∧ (∀ g, e.b = some g → g ∈ fps1 n ∧ g ∉ f0) := by
            have hnd := e4.nd n
            unfold OWe at hE
            have hlt : (e.rows.take len).length = len := by rw [List.length_take]; omega
            rw [hlt]
            cases heb : e.b with
            | none =>
              rw [heb] at hE
              obtain ⟨a1, a2, a3, a4⟩ := hE
              have hl0 : len = 0 := by rw [a1] at q4; simpa using q4
              subst hl0
              refine ⟨[], [], ?_, by simp, by simp [OWl], by simp, by simp, by simp⟩
              rw [hv, hA', heb, a2]
              exact World.ownsRow_nil w 0 el (esz k')
            | some g =>
              rw [heb] at hE
              obtain ⟨cur, ff, a1, a2, a3, a4, a5, a6⟩ := hE
              obtain ⟨f1, f2, rfl, a7⟩ := OWrows_take len a6
              obtain ⟨m1, m2⟩ := OWrows_flat.1 a7
              obtain ⟨us, m3, m4⟩ := OWcells_l m2
              have hul := OWl_length m3
              have hfl := flatten_len m1
              rw [q6] at hfl m1 a2
              rw [hlt] at hfl
              rw [a5] at hnd
              refine ⟨us, f1, ⟨by rw [hul, hfl], .inr ⟨g, e.cap, cur, ?_, Nat.zero_le _, ?_, by omega, a4, a2, ?_⟩⟩, m1, m3, fun x hx => by rw [a5]; simp [hx], ?_, fun g' hg' => ?_⟩
              · rw [hv, hA', heb]; simp
              · rw [← hk1, ← q6]; exact a1
              · have hsz : len * esz k' ≤ cur.size := by rw [a2]; exact Nat.mul_le_mul_right _ (by omega)
                apply List.ext_getElem?
                intro j
                rw [List.getElem?_take]
                split
                · rename_i hj
                  have hj' : j < us.length := by rw [hul, hfl]; exact hj
                  have := m4 j us[j] (by simp [hj'])
                  simp only [Nat.zero_mul, Nat.zero_add] at this
                  simp [hj']
                  simpa using this
                · rename_i hj
                  rw [List.getElem?_eq_none (by rw [hul, hfl]; omega)]
              · rw [nodup_count] at hnd ⊢
                intro x
                have := hnd x
                simp only [List.count_cons, List.count_append] at this
                omega
              · cases hg'
                refine ⟨by rw [a5]; simp, fun hc => ?_⟩
                rw [List.nodup_cons] at hnd
                exact hnd.1 (by simp [hc])
          obtain ⟨xs, f0, c1, c2, c3, c4, c5, c6⟩ := hcore
          have hlt : (e.rows.take len).length = len := by rw [List.length_take]; omega
          have hnF : ∀ b, F b → (a.eval y').ownBlock ≠ some b := fun b hb hbb => by
            rw [hblk] at hbb
            exact (e4.lv n b (c6 b hbb).1).2 (e4.kp b hb)
          have hnf0 : ∀ b, b ∈ f0 ∨ b ∈ f → b < w.heap.size ∧ (a.eval y').ownBlock ≠ some b := fun b hb => by
            rw [hblk]
            rcases hb with hb | hb
            · exact ⟨(e4.lv n b (c4 b hb)).1, fun hbb => (c6 b hbb).2 hb⟩
            · refine ⟨(e4.flv b (by simp [hb])).1, fun hbb => e4.fdj n b (by simp [hb]) (c6 b hbb).1⟩
          obtain ⟨v', w', g1, g2, g3, g4, g5, g6⟩ := app_core (F := F) hel hk hby o.type c1 c2 c3 e3 (by rw [hlt]; simpa [most] using q8) (fun b hb => ⟨hF b (hr.kp b hb), hnF b hb⟩) hnf0
          rw [hlt] at g2
          refine ⟨fun _ => hdrOf v', fun x hp' h => ?_⟩
          simp only [opSem, hev] at h
          obtain ⟨ys', o1', h4', h⟩ := run_bind.1 h
          rw [h4] at h4'
          cases h4'
          simp only [run_askb, run_needb, run_layb, run_ret2] at h
          obtain ⟨e', he', _, rfl, rfl⟩ := h
          rw [he] at he'
          cases he'
          have hkeep : ∀ b, b < w.heap.size → (∀ m, b ∉ fps1 m) → w'.heap[b]? = w.heap[b]? := fun b hb hn => g4.block b hb (fun e' => hn n (c6 b (by rw [← hblk]; exact e'.symm)).1)
          have hn0 := (e5 n rfl).2
          have hnodup : (f0 ++ f).Nodup := by
            rw [List.nodup_append]
            exact ⟨c5, (List.nodup_append.1 e4.fnd).1, fun x hx y hy hxy => e4.fdj n y (by simp [hy]) (hxy ▸ c4 x hx)⟩
          rw [hblk] at g4 g5
          have hgr := ht.grow hF g4 (fun g hg => ⟨by simp [(c6 g hg).1], fun hc => by
              rcases List.mem_append.1 hc with hc | hc
              · exact (c6 g hg).2 hc
              · exact e4.fdj n g (by simp [hc]) (c6 g hg).1⟩) (ob' := (hdrOf v').1) (f := f0 ++ f) (fun b hb => by
              rcases List.mem_append.1 hb with hb | hb
              · simp [c4 b hb]
              · simp [hb]) hnodup (by rw [← g6]; exact g5) (OWe_lt g3)
          have hput := HRel.put (fl := []) (by simpa only [List.append_nil] using hgr) n g3
          have e1 : upd (upd o1 n none) n (some { b := (hdrOf v').1, cap := (hdrOf v').2, k := k', box := false, rows := e.rows.take len ++ ys }) = upd o1 n (some { b := (hdrOf v').1, cap := (hdrOf v').2, k := k', box := false, rows := e.rows.take len ++ ys }) := by
            funext m; simp only [upd]; split <;> rfl
          rw [e1] at hput
          exact ⟨.value v', w', _, hr' _ _ g1, .inl ⟨_, rfl, by simp only [RelV]; exact g2⟩, hput, ⟨g4.os, g4.tape, g4.output, g4.size, fun b hb hn => g4.block b hb (fun e' => hn n (by rw [← hn0]; exact (c6 b e'.symm).1))⟩⟩
        · refine ⟨fun _ => (none, 0), fun x hp' h => ?_⟩
          simp only [opSem, hev] at h
          obtain ⟨ys, o1, h4, h⟩ := run_bind.1 h
          simp only [run_askb, run_needb, Bool.and_eq_true, decide_eq_true_eq, Bool.not_eq_true'] at h
          obtain ⟨e, he, ⟨⟨⟨⟨⟨⟨⟨q1, q2⟩, q3⟩, q4⟩, q5⟩, q6⟩, q7⟩, q8⟩, _⟩ := h
          exact absurd ⟨ys, o1, h4, e, he, q1, q2, q3, q4, q5, q6, q7, q8⟩ hex
      | _ =>
        refine ⟨fun _ => (none, 0), fun x hp' h => ?_⟩
        simp [opSem, hev, run_fail] at h
    · cases h0
  · cases hc
end
end Go.Proofs.AM
