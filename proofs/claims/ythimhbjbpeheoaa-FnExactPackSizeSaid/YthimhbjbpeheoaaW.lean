/- A part of the proof of 'FnExactPackSizeSaid' (W): lemmas on an abstract machine for the program's functions. Conditions: none. -/
import Derived.Test.YthimhbjbpeheoaaV
set_option linter.unusedVariables false
namespace Go.Proofs.AM
structure Hold (p : Prop) : Prop where
  out : p
theorem hold_eq (p : Prop) : Hold p = p := propext ⟨Hold.out, Hold.mk⟩
section
variable {G : Gam} {Q : Ex → St → Prop} {s : St} {a b : IC} {ops : List IOp} {K : St → Prop} {t : Tm} {o : Heap}
def kseq (G : Gam) (b : IC) (Q : Ex → St → Prop) : Ex → St → Prop := fun e s' => match e with
  | .norm => vwp G b Q s'
  | .exit i => Q (.exit i) s'
  | .ret => Q .ret s'
def kblk (id : Nat) (Q : Ex → St → Prop) : Ex → St → Prop := fun e s' => match e with
  | .exit i => (match decEq i id with | isTrue _ => Q .norm s' | isFalse _ => Q (.exit i) s')
  | .norm => Q .norm s'
  | .ret => Q .ret s'
def kloop (I : Nat → St → Prop) (n : Nat) (Q : Ex → St → Prop) : Ex → St → Prop := fun e s' => match e with
  | .norm => ∃ m, m < n ∧ I m s'
  | .exit i => Q (.exit i) s'
  | .ret => Q .ret s'
def kend (f : IFn) (ks : List (List (Option Nat))) (bs : Nat → Option Nat × Nat) (ins : List (Bool × Nat × Rows)) (a : Ans) : Ex → St → Prop := fun e s => match e with
  | .exit _ => False
  | .norm => vret f ks bs ins a s
  | .ret => vret f ks bs ins a s
theorem w_skip (h : Q .norm s) : vwp G .skip Q s := h
theorem w_seq (h : vwp G a (kseq G b Q) s) : vwp G (.seq a b) Q s := ⟨vwp G b Q, h, fun _ h => h⟩
theorem w_reg (h : vstps G ops (Q .norm) s) : vwp G (.reg ops) Q s := h
theorem w_drw {inc : List (Nat × Nat)} (h : vstpLs G inc ops [] (Q .norm) s) : vwp G (.drw ops inc) Q s := h
theorem w_block {id : Nat} (h : vwp G a (kblk id Q) s) : vwp G (.block id a) Q s := ⟨Q .norm, h, fun _ h => h⟩
theorem w_loop (I : Nat → St → Prop) (n : Nat) (h0 : I n s) (h : ∀ n s', I n s' → vwp G a (kloop I n Q) s') : vwp G (.loop a) Q s := ⟨I, ⟨n, h0⟩, h⟩
theorem w_exit {id : Nat} (h : Q (.exit id) s) : vwp G (.exit id) Q s := h
theorem w_ret (h : Q .ret s) : vwp G .ret Q s := h
theorem w_cond {c : Od} {p : Bool} (hc : ev t c = .v (.bool p)) (h1 : p = true → vwp G a Q ⟨t, o⟩) (h2 : p = false → vwp G b Q ⟨t, o⟩) : vwp G (.cond c a b) Q ⟨t, o⟩ := by
  simp only [vwp, hc]
  exact vcond_mk h1 h2
theorem w_ct {c : Od} (hc : ev t c = .v (.bool true)) (h : vwp G a Q ⟨t, o⟩) : vwp G (.cond c a b) Q ⟨t, o⟩ := w_cond hc (fun _ => h) (fun h => by cases h)
theorem w_cf {c : Od} (hc : ev t c = .v (.bool false)) (h : vwp G b Q ⟨t, o⟩) : vwp G (.cond c a b) Q ⟨t, o⟩ := w_cond hc (fun h => by cases h) (fun _ => h)
theorem k_sn (h : vwp G b Q s) : kseq G b Q .norm s := h
theorem k_se {i : Nat} (h : Q (.exit i) s) : kseq G b Q (.exit i) s := h
theorem k_sr (h : Q .ret s) : kseq G b Q .ret s := h
theorem k_bn {id : Nat} (h : Q .norm s) : kblk id Q .norm s := h
theorem k_br {id : Nat} (h : Q .ret s) : kblk id Q .ret s := h
theorem k_be {i : Nat} (h : Q .norm s) : kblk i Q (.exit i) s := by
  unfold kblk
  simp only
  split
  · exact h
  · rename_i hn _; exact absurd rfl hn
theorem k_bx {i id : Nat} (hn : (i == id) = false) (h : Q (.exit i) s) : kblk id Q (.exit i) s := by
  unfold kblk
  simp only
  split
  · rename_i e _; rw [e] at hn; simp at hn
  · exact h
theorem k_ln {I : Nat → St → Prop} {n : Nat} (m : Nat) (hm : m < n) (h : I m s) : kloop I n Q .norm s := ⟨m, hm, h⟩
theorem k_le {I : Nat → St → Prop} {n i : Nat} (h : Q (.exit i) s) : kloop I n Q (.exit i) s := h
theorem k_lr {I : Nat → St → Prop} {n : Nat} (h : Q .ret s) : kloop I n Q .ret s := h
section
variable {f : IFn} {ks : List (List (Option Nat))} {bs : Nat → Option Nat × Nat} {ins : List (Bool × Nat × Rows)} {an : Ans}
theorem k_en (h : vret f ks bs ins an s) : kend f ks bs ins an .norm s := h
theorem k_er (h : vret f ks bs ins an s) : kend f ks bs ins an .ret s := h
theorem v_ret (h : (do let os ← outsA bs 0 ins; let r ← resultsA t f.res ks; HM.ret (r, os) : HM (List (Bool × List T) × List Rows)).vp o fun x _ _ => x.1 = an.res ∧ x.2 = an.outs) : vret f ks bs ins an ⟨t, o⟩ := h
theorem does_mk {xs : List AV} (h : ∀ bs, vwp G f.body (kend f ks bs ins an) ⟨parT bs xs, parH bs ins⟩) : Does G f ks xs ins an := vdoes fun bs => h bs
end
theorem s_nil (h : K s) : vstps G [] K s := h
theorem s_cons {op : IOp} (h : vstp G op s fun s' _ => vstps G ops K s') : vstps G (op :: ops) K s := h
theorem d_nil {inc : List (Nat × Nat)} {L : List LogV} (h1 : compat inc L = true) (h : K s) : vstpLs G inc [] L K s := ⟨h1, h⟩
theorem d_cons {inc : List (Nat × Nat)} {L : List LogV} {op : IOp} (h : vstp G op s fun s' l => vstpLs G inc ops (L ++ [l]) K s') : vstpLs G inc (op :: ops) L K s := h
section
variable {KL : St → LogV → Prop} {d : Option Nat} {op : Opx}
theorem s_grd {g : Nat} {b p : Bool} (hg : t g = .v (.bool p)) (h1 : (p == b) = true → vdo G d op t o KL) (h2 : (p == b) = false → KL ⟨updT t d unv, o⟩ ([], [])) : vstp G ⟨d, op, some (g, b)⟩ ⟨t, o⟩ KL := by
  simp only [vstp, vwant, hg]
  exact vcond_mk h1 h2
theorem s_split {g : Nat} {b p : Bool} (hg : t g = .v (.bool p)) (h1 : p = true → vstp G ⟨d, op, some (g, b)⟩ ⟨t, o⟩ KL) (h2 : p = false → vstp G ⟨d, op, some (g, b)⟩ ⟨t, o⟩ KL) : vstp G ⟨d, op, some (g, b)⟩ ⟨t, o⟩ KL := by
  cases p
  · exact h2 rfl
  · exact h1 rfl
theorem s_gt {g : Nat} {b : Bool} (hg : t g = .v (.bool b)) (h : vdo G d op t o KL) : vstp G ⟨d, op, some (g, b)⟩ ⟨t, o⟩ KL := by
  simp only [vstp, vwant, hg, beq_self_eq_true]
  exact vcond_t h
theorem s_gf {g : Nat} {b p : Bool} (hg : t g = .v (.bool p)) (hn : (p == b) = false) (h : KL ⟨updT t d unv, o⟩ ([], [])) : vstp G ⟨d, op, some (g, b)⟩ ⟨t, o⟩ KL := by
  simp only [vstp, vwant, hg, hn]
  exact vcond_f h
theorem s_gu {g : Nat} {b : Bool} {x : Array Value} (hg : t g = .v (.tuple x)) (h : KL ⟨updT t d unv, o⟩ ([], [])) : vstp G ⟨d, op, some (g, b)⟩ ⟨t, o⟩ KL := by
  simp only [vstp, vwant, hg]
  exact h
theorem s_none (h : vdo G d op t o KL) : vstp G ⟨d, op, none⟩ ⟨t, o⟩ KL := h
def autoP (t : Tm) : Opx → Bool
  | .load .. => false
  | .iaddr .. => false
  | .pick .. => false
  | .sidx .. => false
  | .sls .. => false
  | .ssl .. => false
  | .bin .add x _ => (match ev t x with | .v (.string _) => false | _ => true)
  | op => !hOp op
def boxAt (o : Heap) : AV → Bool
  | .ptr n .. => (match o n with | some e => e.box | none => false)
  | _ => false
def autoH (t : Tm) (o : Heap) : Opx → Bool
  | .box .. => true
  | .alloc .. => true
  | .lit .. => true
  | .store _ p _ => boxAt o (ev t p)
  | _ => false
def plainOp : Opx → Bool
  | .load .. => false
  | op => !hOp op
theorem s_pure (h1 : plainOp op = true) (h : vop t op fun x => Hold (KL ⟨updT t d x, o⟩ ([], []))) : vdo G d op t o KL := by
  simp only [hold_eq] at h
  unfold vdo
  split
  · cases h1
  · split
    · rename_i hn _ hh
      cases op <;> first | (cases h1; done) | (cases hh; done) | exact absurd rfl (hn _ _ _)
    · exact h
theorem s_heap (h1 : hOp op = true) (h : ∀ ch, (opSem G (dstN d) ch t op).vp o fun x o' l => Hold (KL ⟨updT t d x, o'⟩ l)) : vdo G d op t o KL := by
  simp only [hold_eq] at h
  unfold vdo
  split
  · cases h1
  · rw [h1]
    exact h
theorem s_pureA (h1 : autoP t op = true) (h : vop t op fun x => Hold (KL ⟨updT t d x, o⟩ ([], []))) : vdo G d op t o KL := by
  refine s_pure ?_ h
  cases op <;> first | rfl | (cases h1; done) | exact h1
theorem s_heapA (h1 : autoH t o op = true) (h : ∀ ch, (opSem G (dstN d) ch t op).vp o fun x o' l => Hold (KL ⟨updT t d x, o'⟩ l)) : vdo G d op t o KL := by
  refine s_heap ?_ h
  cases op <;> first | rfl | (cases h1; done)
def isPtr : AV → Bool
  | .ptr .. => true
  | _ => false
theorem s_loadp {sz : Nat} {agg : Bool} {p : Od} (hp : isPtr (ev t p) = true) (h : ∀ ch, (opSem G (dstN d) ch t (.load sz agg p)).vp o fun x o' l => Hold (KL ⟨updT t d x, o'⟩ l)) : vdo G d (.load sz agg p) t o KL := by
  simp only [hold_eq] at h
  unfold vdo
  simp only
  split
  · exact h
  · rename_i hn
    cases he : ev t p <;> rw [he] at hp <;> first | (cases hp; done) | exact absurd he (hn _ _ _ _ _)
theorem s_loadb {sz : Nat} {agg : Bool} {p : Od} (hp : boxAt o (ev t p) = true) (h : ∀ ch, (opSem G (dstN d) ch t (.load sz agg p)).vp o fun x o' l => Hold (KL ⟨updT t d x, o'⟩ l)) : vdo G d (.load sz agg p) t o KL := by
  refine s_loadp ?_ h
  cases he : ev t p <;> rw [he] at hp <;> first | rfl | (cases hp; done)
theorem s_loadr {sz : Nat} {agg : Bool} {p : Od} (hp : isPtr (ev t p) = false) (h : vop t (.load sz agg p) fun x => Hold (KL ⟨updT t d x, o⟩ ([], []))) : vdo G d (.load sz agg p) t o KL := by
  simp only [hold_eq] at h
  unfold vdo
  simp only
  split
  · rename_i he
    rw [he] at hp
    cases hp
  · exact h
end
end
end Go.Proofs.AM
