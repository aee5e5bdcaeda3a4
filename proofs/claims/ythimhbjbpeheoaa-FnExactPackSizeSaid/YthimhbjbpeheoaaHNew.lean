/- A part of the proof of 'FnExactPackSizeSaid' (HNew): lemmas on an abstract machine for the program's functions. Conditions: none. -/
import Derived.Test.YthimhbjbpeheoaaHOps
import Derived.Laws.MakeOwn
import Derived.Laws.NewFold
set_option linter.unusedVariables false
set_option linter.unusedSimpArgs false
namespace Go.Proofs.AM
open Go.RowKit
variable {P : Program} {tb : Tab} {F K : Nat → Prop} {w : World}
theorem HRel.fresh {o : Heap} {fps : Nat → List Nat} {fl f : List Nat} (h : HRel tb F K o fps (f ++ fl) w) (hF : ∀ k, K k → k < w.heap.size) (n : Nat) {e : Ent} (us : Array Value) (hb : e.b = some w.heap.size)
    (hsz : us.size = e.cap * esz e.k) (h1 : e.rows.length ≤ e.cap) (h2 : e.cap ≤ maxLen) (hrows : OWrows tb F (w.alloc (.cells us (tb.ty e.k))) us e.k 0 e.rows f) :
    HRel tb F K (upd o n (some e)) (updF fps n (w.heap.size :: f)) fl (w.alloc (.cells us (tb.ty e.k))) := by
  have ha := h.alloc (.cells us (tb.ty e.k)) hF
  refine HRel.put (f := w.heap.size :: f) (by simpa using ha) n ?_
  unfold OWe
  rw [hb]
  exact ⟨us, f, heap_alloc_new w _, hsz, h1, h2, rfl, hrows⟩
theorem alloc_keep {hF : ∀ k, F k → k < w.heap.size} (ob : Obj) : ∀ k, F k → (w.alloc ob).heap[k]? = w.heap[k]? := fun k hk => Below.heap_alloc w ob k (hF k hk)
theorem zcells_sound {w : World} : ∀ {vs : List Value} {zs : List T}, zcells vs zs = true → OWl tb F w zs vs []
  | [], [], _ => by simp [OWl]
  | v :: vs, z :: zs, h => by
    simp only [zcells, Bool.and_eq_true] at h
    simp only [OWl]
    refine ⟨v, vs, [], [], rfl, rfl, ?_, zcells_sound h.2⟩
    have h1 := h.1
    unfold zcell at h1
    split at h1
    · simp only [OWc]; exact .inl ⟨trivial, trivial, trivial⟩
    · simp only [Bool.and_eq_true] at h1
      have := cval_eq h1.1
      subst this
      simp only [OWc]
      exact ⟨trivial, h1.2, trivial⟩
    · cases h1
  | [], _ :: _, h => by simp [zcells] at h
  | _ :: _, [], h => by simp [zcells] at h
theorem newVar_run (t : TypeId) (v : Value) (w : World) : (newVar t v).run P w = .ok ⟨w.heap.size, 0, none⟩ (w.alloc (.cells v.cells t)) := by simp [newVar, newRow]
theorem OWrows_one {cur : Array Value} {k : Nat} {cs : List T} {us : List Value} {f : List Nat} (hl : OWl tb F w cs us f) (hc : cs.length = esz k) (hcur : cur = us.toArray) : OWrows tb F w cur k 0 [cs] f := by
  simp only [OWrows]
  refine ⟨f, [], by simp, hc, ?_, rfl⟩
  subst hcur
  exact OWl_cells hl (fun j u hj => by simpa using hj)
section
variable {G : Gam} {d : Nat} {o : Oper} {t : Tm} {a : Act} {hp hp' : Heap} {fps : Nat → List Nat} {x : AV}
theorem s_box {ch : Ch} {k : Nat} {ks : List (Option Nat)} {y : Od} (hc : chkOp P tb o.op (.box k ks y) = true) (r : RelT tb F w t a) (hr : HRel tb F K hp fps [] w) (hF : ∀ k, K k → k < w.heap.size) (hch : (ch 0).1 = some w.heap.size)
    (h : (opSem G d ch t (.box k ks y)).run hp = some (x, hp')) : HRun P tb F K w fps o a x hp' := by
  unfold HRun execOp
  cases ho : o.op <;> rw [ho] at hc <;> simp only [chkOp, Bool.false_eq_true, Bool.and_eq_true, decide_eq_true_eq] at hc
  rename_i ty y'
  obtain ⟨⟨h1, h2⟩, h3⟩ := hc
  have r1 := od_sound r h3
  simp only [opSem] at h
  obtain ⟨cs, o1, g1, h⟩ := run_bind.1 h
  simp only [run_layb, run_ret2, hch, Option.getD_some] at h
  obtain ⟨rfl, rfl⟩ := h
  obtain ⟨us, hus, hrl⟩ := flat_sound r1 (toTs_cell g1)
  obtain ⟨_, i2, f, fps1, k1, k2, k3, k4, k5, k6⟩ := toTs_sound g1 hr hrl
  subst h1
  have hal := alloc_keep (hF := fun k hk => hF k (hr.kp k hk)) (.cells us.toArray (tb.ty k))
  have hl2 := OWl_keep (w' := w.alloc (.cells us.toArray (tb.ty k))) hal (fun _ h => h) (fun q hq => Below.heap_alloc w _ q (k2.flv q (by simp [hq])).1) k1
  have hlen := OWl_length k1
  refine ⟨.value (.pointer (some ⟨w.heap.size, 0, none⟩)), w.alloc (.cells us.toArray (tb.ty k)), _, ?_, .inl ⟨_, rfl, ?_⟩,
    k2.fresh hF (d * 8) us.toArray rfl (by show us.toArray.size = 1 * esz k; simp; omega) (by simp) (by simp [maxLen]) (OWrows_one hl2 (show cs.length = esz k by omega) rfl), Stp.alloc _ _ _⟩
  · simp [Instr.box, newVar_run, hus]
  · simp only [RelV]
    exact ⟨_, rfl, by simp⟩
theorem zopen_sound {host : Nat} : ∀ {cs cs' : List T} {j : Nat} {o o' : Heap} {fps : Nat → List Nat} {fl : List Nat} {us : List Value}, (zopen host j cs).run o = some (cs', o') → HRel tb F K o fps fl w → OWl tb F w cs us [] → ∃ fps', OWl tb F w cs' us [] ∧ HRel tb F K o' fps' fl w ∧ cs'.length = cs.length
  | [], cs', j, o, o', fps, fl, us, h, hr, hl => by
    simp only [zopen, run_ret2] at h
    obtain ⟨rfl, rfl⟩ := h
    exact ⟨fps, hl, hr, rfl⟩
  | c :: cs, cs', j, o, o', fps, fl, us, h, hr, hl => by
    simp only [zopen] at h
    obtain ⟨c1, o1, h1, h⟩ := run_bind.1 h
    obtain ⟨cs1, o2, h2, h⟩ := run_bind.1 h
    simp only [run_ret2] at h
    obtain ⟨rfl, rfl⟩ := h
    simp only [OWl] at hl
    obtain ⟨u, us', f1, f2, rfl, hf, hc, hl⟩ := hl
    have hf' := hf.symm
    simp only [List.append_eq_nil_iff] at hf'
    obtain ⟨rfl, rfl⟩ := hf'
    have key : ∃ fps1, OWc tb F w c1 u [] ∧ HRel tb F K o1 fps1 fl w := by
      split at h1
      · rename_i k
        simp only [run_layb, run_ret2] at h1
        obtain ⟨rfl, rfl⟩ := h1
        have hu : u = .slice none 0 0 := by
          simp only [OWc] at hc
          rcases hc with hc | ⟨_, _, _, _, _, _, _, _, _, hc, _⟩
          · exact hc.2.1
          · cases hc
        exact ⟨_, by simp only [OWc]; exact ⟨trivial, none, by rw [hu], Nat.le_refl _, fun _ => rfl, .inl rfl⟩, HRel.put (f := []) (by simpa using hr) (cn host j) (e := ⟨none, 0, k, false, []⟩) (by simp [OWe])⟩
      · simp only [run_ret2] at h1
        obtain ⟨rfl, rfl⟩ := h1
        exact ⟨fps, hc, hr⟩
    obtain ⟨fps1, k1, k2⟩ := key
    obtain ⟨fps2, g1, g2, g3⟩ := zopen_sound h2 k2 hl
    exact ⟨fps2, by simp only [OWl]; exact ⟨u, us', [], [], rfl, rfl, k1, g1⟩, g2, by simp [g3]⟩
theorem s_alloc {ch : Ch} {k : Nat} {z : List T} (hc : chkOp P tb o.op (.alloc k z) = true) (hr : HRel tb F K hp fps [] w) (hF : ∀ k, K k → k < w.heap.size) (hch : (ch 0).1 = some w.heap.size)
    (h : (opSem G d ch t (.alloc k z)).run hp = some (x, hp')) : HRun P tb F K w fps o a x hp' := by
  unfold HRun execOp
  cases ho : o.op <;> rw [ho] at hc <;> simp only [chkOp, Bool.false_eq_true, Bool.and_eq_true, decide_eq_true_eq] at hc
  rename_i ty
  obtain ⟨⟨h1, h2⟩, h3⟩ := hc
  split at h3
  · rename_i vs hz
    simp only [opSem] at h
    obtain ⟨cs, o1, g1, h⟩ := run_bind.1 h
    simp only [run_layb, run_ret2, hch, Option.getD_some] at h
    obtain ⟨rfl, rfl⟩ := h
    unfold zOf at hz
    obtain ⟨z0, hz0, rfl⟩ := Option.map_eq_some_iff.1 hz
    obtain ⟨i0, hi0, hzz⟩ := Option.bind_eq_some_iff.1 hz0
    subst h1
    obtain ⟨fps1, hl0, hr1, hlz⟩ := zopen_sound g1 hr (zcells_sound (tb := tb) (F := F) (w := w) h3)
    have hzr : (zeroValue (tb.ty k)).run P w = .ok z0 w := by simp [zeroValue, typeInfo, hi0, hzz]
    have hal := alloc_keep (hF := fun k hk => hF k (hr.kp k hk)) (.cells z0.cells (tb.ty k))
    have hl := OWl_keep (w' := w.alloc (.cells z0.cells (tb.ty k))) hal (fun _ h => h) (fun q hq => by cases hq) hl0
    have hlen := OWl_length hl
    have hcs : cs.length = esz k := by rw [hlz]; exact h2
    rw [hcs] at hlen
    refine ⟨.value (.pointer (some ⟨w.heap.size, 0, none⟩)), w.alloc (.cells z0.cells (tb.ty k)), _, ?_, .inl ⟨_, rfl, ?_⟩,
      HRel.fresh (f := []) (by simpa using hr1) hF (d * 8) z0.cells rfl (by show z0.cells.size = 1 * esz k; simp at hlen ⊢; omega) (by simp) (by simp [maxLen]) (OWrows_one hl hcs (by simp)), Stp.alloc _ _ _⟩
    · simp [Instr.alloc, hzr, newVar_run]
    · simp only [RelV]
      exact ⟨_, rfl, by simp⟩
  · cases h3
theorem OWrows_rep {cur : Array Value} {k : Nat} {z : List T} {zs : List Value} (hl : OWl tb F w z zs []) (hz : z.length = esz k) : ∀ (n i : Nat), (∀ j q v, i ≤ j → j < i + n → zs[q]? = some v → cur[j * esz k + q]? = some v) → OWrows tb F w cur k i (List.replicate n z) []
  | 0, i, _ => by simp [OWrows]
  | n + 1, i, h => by
    simp only [List.replicate_succ, OWrows]
    refine ⟨[], [], rfl, hz, OWl_cells hl (fun q v hq => h i q v (Nat.le_refl _) (by omega) hq), OWrows_rep hl hz n (i + 1) (fun j q v h1 h2 hq => h j q v (by omega) (by omega) hq)⟩
theorem madeCells_get (z : Array Value) (n j q : Nat) (v : Value) (hj : j < n) (hq : z[q]? = some v) : (madeCells z (n * z.size))[j * z.size + q]? = some v := by
  have hqs : q < z.size := (Array.getElem?_eq_some_iff.1 hq).1
  have hlt : j * z.size + q < n * z.size := by
    have : (j + 1) * z.size ≤ n * z.size := Nat.mul_le_mul_right _ (by omega)
    rw [Nat.add_mul, Nat.one_mul] at this
    omega
  unfold madeCells
  rw [Array.getElem?_map, Array.getElem?_range, if_pos hlt]
  simp only [Option.map_some, Option.some.injEq]
  rw [Nat.mul_add_mod_self_right, Nat.mod_eq_of_lt hqs]
  rw [getElem!_def, hq]
theorem by_of {e : TypeId} (h : byOk P e = true) : ∃ i z, P.info? e = some i ∧ i.zero = some z ∧ z.cells.size = i.size ∧ 0 < i.bytes ∧ i.bytes ≤ 32768 := by
  unfold byOk at h
  split at h
  · rename_i i hi
    simp only [Bool.and_eq_true, decide_eq_true_eq] at h
    obtain ⟨⟨h1, h2⟩, h3⟩ := h
    split at h3
    · rename_i z hz
      exact ⟨i, z, hi, hz, of_decide_eq_true h3, h1, h2⟩
    · cases h3
  · cases h
theorem k_of {e : TypeId} {k : Nat} (h : kOk P tb e k = true) : tb.ty k = e ∧ szOf P e = some (esz k) ∧ 0 < esz k := by
  unfold kOk at h
  simp only [Bool.and_eq_true, decide_eq_true_eq] at h
  exact ⟨h.1.1, h.1.2, h.2⟩
theorem s_mks {ch : Ch} {k : Nat} {z : List T} {n m : Od} (hc : chkOp P tb o.op (.mks k z n m) = true) (r : RelT tb F w t a) (hr : HRel tb F K hp fps [] w) (hF : ∀ k, K k → k < w.heap.size) (hch : (ch 0).1 = some w.heap.size)
    (h : (opSem G d ch t (.mks k z n m)).run hp = some (x, hp')) : HRun P tb F K w fps o a x hp' := by
  unfold HRun execOp
  cases ho : o.op <;> rw [ho] at hc <;> simp only [chkOp, Bool.false_eq_true, Bool.and_eq_true] at hc
  rename_i ty n' m'
  obtain ⟨⟨h0, h1⟩, h2⟩ := hc
  have r1 := od_sound r h1
  have r2 := od_sound r h2
  split at h0
  · rename_i e hel
    simp only [Bool.and_eq_true, decide_eq_true_eq] at h0
    obtain ⟨⟨⟨hk, hby⟩, hzl⟩, hzz⟩ := h0
    split at hzz
    · rename_i vs hzo
      simp only [opSem] at h
      split at h
      · rename_i nn mm hn hm
        simp only [run_needb, run_layb, run_ret2, hch, Option.getD_some, Bool.and_eq_true, decide_eq_true_eq] at h
        obtain ⟨⟨⟨c1, c2⟩, c3⟩, rfl, rfl⟩ := h
        subst c2
        obtain ⟨k1, e1⟩ := int_rel hn r1
        obtain ⟨k2, e2⟩ := int_rel hm r2
        obtain ⟨hk1, hk2, hk3⟩ := k_of hk
        obtain ⟨i, z0, hi, hz0, hzs, hb1, hb2⟩ := by_of hby
        have hisz : i.size = esz k := by simpa [szOf, hi] using hk2
        have hvs : z0.cells.toList = vs := by simpa [zOf, hi, hz0] using hzo
        simp only [most] at c3
        have hbb : (i.bytes : Int) * nn ≤ 281474976710656 := by
          have h1 : (i.bytes : Int) ≤ 32768 := by omega
          have h2 : nn ≤ 4294967296 := by omega
          calc (i.bytes : Int) * nn ≤ 32768 * 4294967296 := Int.mul_le_mul h1 h2 c1 (by omega)
            _ ≤ 281474976710656 := by decide
        have hrun := run_make (P := P) w ty e i z0 (el_of hel) hi hz0 k1 k2 nn nn c1 (Int.le_refl _) hbb (by omega)
        subst hk1
        have hl := zcells_sound (tb := tb) (F := F) (w := w.alloc (.cells (madeCells z0.cells (nn.toNat * i.size)) (tb.ty k))) hzz
        refine ⟨.value (.slice (some ⟨w.heap.size, 0, none⟩) nn.toNat nn.toNat), w.alloc (.cells (madeCells z0.cells (nn.toNat * i.size)) (tb.ty k)), _, ?_, .inl ⟨_, rfl, ?_⟩, HRel.fresh (f := []) (by simpa using hr) hF (d * 8) (madeCells z0.cells (nn.toNat * i.size)) rfl (by show _ = nn.toNat * esz k; rw [size_madeCells, hisz]) (by simp) (by simp only [maxLen]; omega) ?_, Stp.alloc _ _ _⟩
        · refine val_run ?_
          rw [e1, e2]
          exact hrun
        · simp only [RelV, Hdr]
          exact ⟨_, rfl, by omega, by simp, by simp⟩
        · refine OWrows_rep hl hzl nn.toNat 0 (fun j q v hj1 hj2 hq => ?_)
          have := madeCells_get z0.cells nn.toNat j q v (by omega) (by rw [← hvs] at hq; simpa using hq)
          rw [hzs, hisz] at this
          rw [hisz]
          exact this
      · simp only [run_fail] at h
    · cases hzz
  · cases h0
theorem OWrows_setrow {cur : Array Value} {k : Nat} {rows : Rows} {fp : List Nat} (h : OWrows tb F w cur k 0 rows fp) {i : Nat} (hi : i < rows.length) {cs : List T} {us : List Value} {f : List Nat} (hl : OWl tb F w cs us f) (hc : cs.length = esz k) (hfit : (i + 1) * esz k ≤ cur.size) :
    ∃ fp', OWrows tb F w (setAt cur.toList (i * esz k) us).toArray k 0 (rows.set i cs) fp' ∧ (∀ b, b ∈ fp' → b ∈ fp ∨ b ∈ f) ∧ ((fp ++ f).Nodup → fp'.Nodup) := by
  have hus := OWl_length hl
  have hsplit := mem_split_at rows i [] hi
  rw [hsplit, List.append_assoc] at h
  obtain ⟨fA, f1, rfl, hA, h⟩ := OWrows_append.1 h
  obtain ⟨fr, fB, rfl, hR, hB⟩ := OWrows_append.1 h
  have hlenA : (rows.take i).length = i := by rw [List.length_take]; omega
  rw [hlenA] at hB
  simp only [Nat.zero_add, List.length_singleton] at hB
  have hm : (i + 1) * esz k = i * esz k + esz k := by rw [Nat.add_mul, Nat.one_mul]
  have hcur' : ∀ q, (setAt cur.toList (i * esz k) us).toArray[q]? = if q < i * esz k then cur[q]? else if q < i * esz k + us.length then us[q - i * esz k]? else cur[q]? := by
    intro q
    rw [setAt_spec _ _ _ (by simp; omega)]
    simp only [List.getElem?_toArray, List.append_assoc]
    by_cases q1 : q < i * esz k
    · rw [if_pos q1, List.getElem?_append_left (by simp; omega)]
      simp [q1]
    · rw [if_neg q1, List.getElem?_append_right (by simp; omega)]
      have hmin : (cur.toList.take (i * esz k)).length = i * esz k := by simp; omega
      rw [hmin]
      by_cases q2 : q < i * esz k + us.length
      · rw [if_pos q2, List.getElem?_append_left (by omega)]
      · rw [if_neg q2, List.getElem?_append_right (by omega), List.getElem?_drop]
        rw [show i * esz k + us.length + (q - i * esz k - us.length) = q by omega]
        simp
  refine ⟨fA ++ (f ++ fB), ?_, ?_, ?_⟩
  · have hset : rows.set i cs = rows.take i ++ ([cs] ++ rows.drop (i + 1)) := by
      rw [List.set_eq_take_append_cons_drop, if_pos hi]; simp
    rw [hset]
    refine OWrows_append.2 ⟨fA, _, rfl, OWrows_cur (fun q q1 q2 => ?_) hA, ?_⟩
    · rw [hcur' q, if_pos]
      rw [hlenA] at q2
      simpa using q2
    rw [hlenA]
    simp only [Nat.zero_add]
    refine OWrows_append.2 ⟨f, fB, rfl, ?_, OWrows_cur (fun q q1 q2 => ?_) hB⟩
    · simp only [OWrows]
      refine ⟨f, [], by simp, hc, OWl_cells hl (fun j u hj => ?_), rfl⟩
      have hj' : j < us.length := (List.getElem?_eq_some_iff.1 hj).1
      rw [hcur', if_neg (by omega), if_pos (by omega), show i * esz k + j - i * esz k = j by omega]
      exact hj
    · simp only [List.length_singleton] at q1
      rw [hcur' q, if_neg (by omega), if_neg (by omega)]
  · intro b hb
    simp only [List.mem_append] at hb ⊢
    rcases hb with h | h | h <;> simp [h]
  · intro hn
    rw [nodup_count] at hn ⊢
    intro x
    have := hn x
    simp only [List.count_append] at this ⊢
    omega
theorem parts_sound {host : Nat} {ks : List (Option Nat)} {t : Tm} {a : Act} (r : RelT tb F w t a) {k : Nat} (hks : ks.length = esz k) {n : Nat} : ∀ {os : List (Nat × Operand)} {ps : List (Nat × Od)} {rows rows' : Rows} {o o' : Heap} {fps : Nat → List Nat} {cur : Array Value} {fp : List Nat},
    chkLit tb os ps = true → (parts host ks t ps rows).run o = some (rows', o') → HRel tb F K o fps fp w → OWrows tb F w cur k 0 rows fp → rows.length = n → cur.size = n * esz k →
    ∃ cur' fp' fps', Instr.fill (fun i => some (i * esz k, esz k)) cur (os.map fun (i, x) => (i, a.eval x)) = some cur' ∧ cur'.size = n * esz k ∧ rows'.length = n ∧ OWrows tb F w cur' k 0 rows' fp' ∧ HRel tb F K o' fps' fp' w ∧ Sub fps' fps
  | [], [], rows, rows', o, o', fps, cur, fp, hc, h, hr, hrows, hn, hs => by
    simp only [parts, run_ret2] at h
    obtain ⟨rfl, rfl⟩ := h
    exact ⟨cur, fp, fps, by simp [Instr.fill], hs, hn, hrows, hr, Sub.refl _⟩
  | (i, ox) :: os, (j, d) :: ps, rows, rows', o, o', fps, cur, fp, hc, h, hr, hrows, hn, hs => by
    simp only [chkLit, Bool.and_eq_true, beq_iff_eq] at hc
    obtain ⟨⟨rfl, h1⟩, h2⟩ := hc
    simp only [parts, run_needb, decide_eq_true_eq] at h
    obtain ⟨hlt, h⟩ := h
    obtain ⟨cs, o1, g1, h⟩ := run_bind.1 h
    obtain ⟨us, hus, hrl⟩ := flat_sound (od_sound r h1) (toTs_cell g1)
    obtain ⟨_, i2, f, fps1, k1, k2, k3, k4, k5, k6⟩ := toTs_sound g1 hr hrl
    have hlen := OWl_length k1
    have hfit : (i + 1) * esz k ≤ cur.size := by rw [hs]; exact Nat.mul_le_mul_right _ (by omega)
    obtain ⟨fp1, e1, e2, e3⟩ := OWrows_setrow hrows hlt k1 (by omega) hfit
    have hm : (i + 1) * esz k = i * esz k + esz k := by rw [Nat.add_mul, Nat.one_mul]
    have hsz1 : (setAt cur.toList (i * esz k) us).toArray.size = n * esz k := by
      rw [setAt_spec _ _ _ (by simp; omega)]
      simp only [List.size_toArray, List.length_append, List.length_take, List.length_drop, Array.length_toList]
      omega
    have hr1 : HRel tb F K o1 fps1 fp1 w := k2.sub (fun b hb => by rcases e2 b hb with h | h <;> simp [h]) (e3 (by
      have := k2.fnd
      rw [nodup_count] at this ⊢
      intro x
      have := this x
      simp only [List.count_append] at this ⊢
      omega))
    obtain ⟨cur', fp', fps', q1, q2, q3, q4, q5, q6⟩ := parts_sound r hks h2 h hr1 e1 (by simpa using hn) hsz1
    refine ⟨cur', fp', fps', ?_, q2, q3, q4, q5, q6.trans k5⟩
    simp only [List.map_cons, Instr.fill, hus]
    rw [if_neg (by simp; omega)]
    rw [← q1]
    congr 1
    apply Array.ext'
    rw [← Array.foldl_toList]
    have := fold_setAt us 0 (i * esz k) cur
    simpa using this
  | [], _ :: _, rows, rows', o, o', fps, cur, fp, hc, h, hr, hrows, hn, hs => by simp [chkLit] at hc
  | _ :: _, [], rows, rows', o, o', fps, cur, fp, hc, h, hr, hrows, hn, hs => by simp [chkLit] at hc
theorem s_lit {ch : Ch} {k : Nat} {ks : List (Option Nat)} {z : List T} {n : Nat} {ps : List (Nat × Od)} (hc : chkOp P tb o.op (.lit k ks z n ps) = true) (r : RelT tb F w t a) (hr : HRel tb F K hp fps [] w) (hF : ∀ k, K k → k < w.heap.size) (hch : (ch 0).1 = some w.heap.size)
    (h : (opSem G d ch t (.lit k ks z n ps)).run hp = some (x, hp')) : HRun P tb F K w fps o a x hp' := by
  unfold HRun execOp
  cases ho : o.op <;> rw [ho] at hc <;> simp only [chkOp, Bool.false_eq_true, Bool.and_eq_true, decide_eq_true_eq] at hc
  rename_i ty n' ps'
  obtain ⟨⟨⟨h0, rfl⟩, hn256⟩, h2⟩ := hc
  split at h0
  · rename_i e hel
    simp only [Bool.and_eq_true, decide_eq_true_eq] at h0
    obtain ⟨⟨⟨⟨hk, hby⟩, hzl⟩, hks⟩, hzz⟩ := h0
    split at hzz
    · rename_i vs hzo
      obtain ⟨hk1, hk2, hk3⟩ := k_of hk
      obtain ⟨i, z0, hi, hz0, hzs, hb1, hb2⟩ := by_of hby
      have hisz : i.size = esz k := by simpa [szOf, hi] using hk2
      have hvs : z0.cells.toList = vs := by simpa [zOf, hi, hz0] using hzo
      subst hk1
      simp only [opSem] at h
      obtain ⟨rows, o1, g1, h⟩ := run_bind.1 h
      simp only [run_layb, run_ret2, hch, Option.getD_some] at h
      obtain ⟨rfl, rfl⟩ := h
      have hl := zcells_sound (tb := tb) (F := F) (w := w) hzz
      have hrep : OWrows tb F w (madeCells z0.cells (n' * esz k)) k 0 (List.replicate n' z) [] := OWrows_rep hl hzl n' 0 (fun j q v hj1 hj2 hq => by
        have := madeCells_get z0.cells n' j q v (by omega) (by rw [← hvs] at hq; simpa using hq)
        rwa [hzs, hisz] at this)
      obtain ⟨cur', fp', fps', q1, q2, q3, q4, q5, q6⟩ := parts_sound r hks h2 g1 hr hrep (by simp) (size_madeCells _ _)
      have hal := alloc_keep (hF := fun k hk => hF k (hr.kp k hk)) (.cells cur' (tb.ty k))
      have hrows' := OWrows_keep (w' := w.alloc (.cells cur' (tb.ty k))) hal (fun _ h => h) cur' k rows 0 fp' (fun q hq => Below.heap_alloc w _ q (q5.flv q hq).1) q4
      refine ⟨.value (.slice (some ⟨w.heap.size, 0, none⟩) n' n'), w.alloc (.cells cur' (tb.ty k)), _, ?_, .inl ⟨_, rfl, ?_⟩,
        HRel.fresh (fl := []) (by simpa using q5) hF (d * 8) cur' rfl q2 (by show rows.length ≤ n'; omega) (by show n' ≤ maxLen; simp only [maxLen]; omega) hrows', Stp.alloc _ _ _⟩
      · have hzr : (zeroValue (tb.ty k)).run P w = .ok z0 w := by simp [zeroValue, typeInfo, hi, hz0]
        have hes : esz k < 16 := Nat.mod_lt _ (by omega)
        have hsm : ¬ (n' * esz k > 2 ^ 24) := by
          have : n' * esz k ≤ 256 * 16 := Nat.mul_le_mul hn256 (by omega)
          omega
        refine val_run ?_
        by_cases hz : n' * esz k = 0
        · have hmc : madeCells z0.cells (n' * esz k) = (Array.range (n' * esz k)).map ((#[] : Array Value)[· % (#[] : Array Value).size]!) := by rw [hz]; simp [madeCells]
          rw [hmc] at q1
          simp only [Instr.buildSlice, Sem.run_bind, run_underlying (el_of hel), sizeOf_run hk2, Result.andThen_ok, if_neg hsm, Sem.run_pure, Array.toList_map]
          rw [if_pos hz]
          simp only [Sem.run_bind, Sem.run_pure, Result.andThen_ok, q1, newRow, Sem.run_bind, run_newObj_alloc, Result.andThen_ok, Sem.run_pure]
        · simp only [Instr.buildSlice, Sem.run_bind, run_underlying (el_of hel), sizeOf_run hk2, Result.andThen_ok, if_neg hsm, Sem.run_pure, Array.toList_map]
          rw [if_neg hz]
          unfold madeCells at q1
          simp only [Sem.run_bind, Sem.run_pure, hzr, Result.andThen_ok, q1, newRow, Sem.run_bind, run_newObj_alloc, Result.andThen_ok, Sem.run_pure]
      · simp only [RelV, Hdr]
        exact ⟨_, rfl, by omega, by simp, by simp⟩
    · cases hzz
  · cases h0
end
end Go.Proofs.AM
