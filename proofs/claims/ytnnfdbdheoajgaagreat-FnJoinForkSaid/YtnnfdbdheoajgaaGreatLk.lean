/- Lemmas of the proof (Lk), on an abstract machine. Conditions: none. -/
import Derived.Test.YtnnfdbdheoajgaaGreatG3
import Derived.Test.YtnnfdbdheoajgaaGreatHFn
set_option linter.unusedVariables false
namespace Go.Proofs.AM
variable {P : Program} {tb : Tab}
def lk : List (Nat × Nat) → Nat → Nat
 | [], _ => 0
 | (a, b) :: r, k => if a = k then b else lk r k
def ah7 (P : Program) (tb : Tab) (c : Con) : Prop := (∀ a a', c.args a = c.args a' → c.ins a = c.ins a' → a = a') ∧ ∀ a b, c.val a = some b → Fz7 P tb c.f (c.args a) (c.ins a) (c.ans a b)
open Classical in
noncomputable def Fl7 : List Con → Gam
 | [], _, _, _ => none
 | c :: cs, f, xs, ins => if h : c.f = f ∧ ∃ p : c.A × c.B, c.args p.1 = xs ∧ c.ins p.1 = ins ∧ c.val p.1 = some p.2 then some (c.ans (Classical.choose h.2).1 (Classical.choose h.2).2) else Fl7 cs f xs ins
theorem p67 : ∀ {cs : List Con}, (∀ c, c ∈ cs → ah7 P tb c) → dU7 P tb (Fl7 cs)
 | [], h, f, xs, ins, ans, hg => by cases hg
 | c :: cs, h, f, xs, ins, ans, hg => by
  simp only [Fl7] at hg
  split at hg
  ·rename_i hh
   obtain ⟨rfl, hex⟩ := hh
   have h1 := Classical.choose_spec hex
   simp only [Option.some.injEq] at hg
   subst hg
   generalize Classical.choose hex = p at h1
   obtain ⟨a, b⟩ := p
   obtain ⟨rfl, rfl, h2⟩ := h1
   exact (h c (by simp)).2 _ _ h2
  ·exact p67 (fun c hc => h c (by simp [hc])) f xs ins ans hg
def GK7 (cs : List Con) : List Nat := cs.map (·.f)
def uZ7 : List Nat → Bool
 | [] => true
 | x :: xs => !xs.contains x && uZ7 xs
theorem tr7 : ∀ {cs : List Con}, uZ7 (GK7 cs) = true → (∀ c, c ∈ cs → ∀ a a', c.args a = c.args a' → c.ins a = c.ins a' → a = a') → ∀ c, c ∈ cs → Has (Fl7 cs) c
 | [], hn, hi, c, hc => by cases hc
 | c0 :: cs, hn, hi, c, hc => by
  intro a b hv
  simp only [GK7, List.map_cons, uZ7, Bool.and_eq_true, Bool.not_eq_true'] at hn
  rcases List.mem_cons.1 hc with rfl | hc
  ·have hex : ∃ p : c.A × c.B, c.args p.1 = c.args a ∧ c.ins p.1 = c.ins a ∧ c.val p.1 = some p.2 := ⟨(a, b), rfl, rfl, hv⟩
   simp only [Fl7]
   rw [dif_pos ⟨rfl, hex⟩]
   have h1 := Classical.choose_spec hex
   generalize Classical.choose hex = p at h1
   obtain ⟨a', b'⟩ := p
   have h2 := hi c (by simp) _ _ h1.1 h1.2.1
   have h3 := h1.2.2
   simp only at h2 h3
   subst h2
   rw [hv] at h3
   cases Option.some.inj h3
   rfl
  ·simp only [Fl7]
   rw [dif_neg]
   ·exact tr7 hn.2 (fun c hc => hi c (by simp [hc])) c hc a b hv
   ·rintro ⟨h1, _⟩
    have : (cs.map (·.f)).contains c0.f = true := by
     rw [List.contains_iff_mem, List.mem_map]
     exact ⟨c, hc, h1.symm⟩
    rw [this] at hn
    exact absurd hn.1 (by simp)
theorem all_nil : ∀ c, c ∈ ([] : List Con) → ah7 P tb c := fun c hc => by cases hc
theorem all_cons {c0 : Con} {cs : List Con} (h : ah7 P tb c0) (hs : ∀ c, c ∈ cs → ah7 P tb c) : ∀ c, c ∈ c0 :: cs → ah7 P tb c := fun c hc => by
 rcases List.mem_cons.1 hc with rfl | hc
 ·exact h
 ·exact hs c hc
section
variable {α : Type} {f : α → List T}
theorem ad7 (hf : ∀ a b, f a = f b → a = b) {xs ys : List α} : xs.map f = ys.map f ↔ xs = ys := ⟨ws7 hf, fun h => by rw [h]⟩
theorem p77 {m : Bool} {k : Nat} {a b : Rows} : sl m k a = sl m k b ↔ a = b := ⟨FO7, fun h => by rw [h]⟩
theorem eY7 (a b : Int) (h : br7 a = br7 b) : a = b := by simpa [br7] using h
theorem eM7 (a b : Bool) (h : bK7 a = bK7 b) : a = b := by simpa [bK7] using h
theorem j17 (a b : Str) (h : cL7 a = cL7 b) : a = b := by simpa [cL7] using h
theorem GL7 (a b : UInt8) (h : eU8 a = eU8 b) : a = b := by
 have : (a.toNat : Int) = b.toNat := by simpa [eU8] using h
 exact UInt8.toNat_inj.1 (by omega)
theorem ij7 (a b : Pt) (h : ePt a = ePt b) : a = b := by cases a; cases b; simpa [ePt] using h
theorem eZ7 (a b : Tag) (h : bc7 a = bc7 b) : a = b := by cases a; cases b; simpa [bc7] using h
theorem gz7 (a b : Head) (h : av7 a = av7 b) : a = b := by cases a; cases b; simpa [av7] using h
theorem gV7 (a b : aG7) (h : bw7 a = bw7 b) : a = b := by cases a; cases b; simpa [bw7] using h
theorem jt7 (a b : d67) (h : fh7 a = fh7 b) : a = b := by cases a; cases b; simpa [fh7] using h
theorem sf7 {m : Bool} {k : Nat} (hf : ∀ a b, f a = f b → a = b) (a b : List α) (h : eSl m k f a = eSl m k f b) : a = b := by
 simp only [eSl, List.cons.injEq, and_true, p77, ad7 hf] at h
 exact h
theorem d07 {m : Bool} (a b : Feat) (h : ag7 m a = ag7 m b) : a = b := by
 obtain ⟨i, ⟨k, p⟩, t⟩ := a; obtain ⟨i', ⟨k', p'⟩, t'⟩ := b
 simp only [ag7, List.cons.injEq, T.v.injEq, Value.string.injEq, Value.int.injEq, p77, ad7 ij7, ad7 eZ7, true_and, and_true] at h
 obtain ⟨rfl, rfl, rfl, rfl⟩ := h
 rfl
theorem ds7 {m : Bool} (a b : jY7) (h : cF7 m a = cF7 m b) : a = b := by
 obtain ⟨i, h1, ⟨a1, ⟨k1, p1⟩, t1⟩, h2, ⟨a2, ⟨k2, p2⟩, t2⟩⟩ := a; obtain ⟨i', h1', ⟨a1', ⟨k1', p1'⟩, t1'⟩, h2', ⟨a2', ⟨k2', p2'⟩, t2'⟩⟩ := b
 simp only [cF7, List.cons.injEq, T.v.injEq, Value.string.injEq, Value.int.injEq, Value.bool.injEq, p77, ad7 ij7, ad7 eZ7, true_and, and_true] at h
 obtain ⟨rfl, rfl, rfl, rfl, rfl, rfl, rfl, rfl, rfl, rfl, rfl⟩ := h
 rfl
theorem gW7 {m : Bool} (a b : mC7) (h : f37 m a = f37 m b) : a = b := by
 cases a; cases b
 simp only [f37, List.cons.injEq, T.v.injEq, Value.string.injEq, p77, ad7 eY7, ad7 ds7, and_true] at h
 obtain ⟨rfl, rfl, rfl⟩ := h
 rfl
theorem dt7 {m : Bool} (a b : Commit) (h : af7 m a = af7 m b) : a = b := by
 cases a; cases b
 simp only [af7, List.cons.injEq, T.v.injEq, Value.string.injEq, p77, ad7 eY7, ad7 d07, and_true] at h
 obtain ⟨rfl, rfl, rfl⟩ := h
 rfl
theorem zI7 {a b : Pt} : AV.agg [.v (.int .i64 a.x), .v (.int .i64 a.y)] = AV.agg [.v (.int .i64 b.x), .v (.int .i64 b.y)] ↔ a = b := by
 cases a; cases b; simp
theorem ts7 {a b : Tag} : AV.agg [.v (.string a.key), .v (.string a.val)] = AV.agg [.v (.string b.key), .v (.string b.val)] ↔ a = b := by
 cases a; cases b; simp
theorem or7 {a b : Head} : AV.agg [.v (.string a.name), .v (.int .i64 a.at_)] = AV.agg [.v (.string b.name), .v (.int .i64 b.at_)] ↔ a = b := by
 cases a; cases b; simp
theorem kE7 {a b : aG7} : AV.agg [.v (.string a.id), .v (.string a.what)] = AV.agg [.v (.string b.id), .v (.string b.what)] ↔ a = b := by
 cases a; cases b; simp
theorem os7 {a b : d67} : AV.agg [.v (.int .i64 a.a), .v (.int .i64 a.b)] = AV.agg [.v (.int .i64 b.a), .v (.int .i64 b.b)] ↔ a = b := by
 cases a; cases b; simp
theorem tt7 {a b : Val} : AV.agg [.v (.bool a.has), .v (.string a.val)] = AV.agg [.v (.bool b.has), .v (.string b.val)] ↔ a = b := by
 cases a; cases b; simp
theorem kF7 {a b : aS7} : AV.agg [.v (.int .i64 a.kind), .ro (List.map ePt a.pts)] = AV.agg [.v (.int .i64 b.kind), .ro (List.map ePt b.pts)] ↔ a = b := by
 cases a; cases b; simp [ad7 ij7]
theorem ot7 {a b : Feat} : AV.agg [.v (.string a.id), .v (.int .i64 a.shape.kind), .ro (List.map ePt a.shape.pts), .ro (List.map bc7 a.tags)] = AV.agg [.v (.string b.id), .v (.int .i64 b.shape.kind), .ro (List.map ePt b.shape.pts), .ro (List.map bc7 b.tags)] ↔ a = b := by
 obtain ⟨i, ⟨k, p⟩, t⟩ := a; obtain ⟨i', ⟨k', p'⟩, t'⟩ := b
 simp [ad7 ij7, ad7 eZ7, and_assoc]
theorem kG7 {a b : dq7} : AV.agg [.v (.bool a.has), .v (.string a.f.id), .v (.int .i64 a.f.shape.kind), .ro (List.map ePt a.f.shape.pts), .ro (List.map bc7 a.f.tags)] = AV.agg [.v (.bool b.has), .v (.string b.f.id), .v (.int .i64 b.f.shape.kind), .ro (List.map ePt b.f.shape.pts), .ro (List.map bc7 b.f.tags)] ↔ a = b := by
 obtain ⟨h, i, ⟨k, p⟩, t⟩ := a; obtain ⟨h', i', ⟨k', p'⟩, t'⟩ := b
 simp [ad7 ij7, ad7 eZ7, and_assoc]
theorem ik7 {a b : jY7} : AV.agg [.v (.string a.id), .v (.bool a.had), .v (.string a.was.id), .v (.int .i64 a.was.shape.kind), .ro (List.map ePt a.was.shape.pts), .ro (List.map bc7 a.was.tags), .v (.bool a.has), .v (.string a.now.id), .v (.int .i64 a.now.shape.kind), .ro (List.map ePt a.now.shape.pts), .ro (List.map bc7 a.now.tags)] = AV.agg [.v (.string b.id), .v (.bool b.had), .v (.string b.was.id), .v (.int .i64 b.was.shape.kind), .ro (List.map ePt b.was.shape.pts), .ro (List.map bc7 b.was.tags), .v (.bool b.has), .v (.string b.now.id), .v (.int .i64 b.now.shape.kind), .ro (List.map ePt b.now.shape.pts), .ro (List.map bc7 b.now.tags)] ↔ a = b := by
 obtain ⟨i, h1, ⟨a1, ⟨k1, p1⟩, t1⟩, h2, ⟨a2, ⟨k2, p2⟩, t2⟩⟩ := a; obtain ⟨i', h1', ⟨a1', ⟨k1', p1'⟩, t1'⟩, h2', ⟨a2', ⟨k2', p2'⟩, t2'⟩⟩ := b
 simp [ad7 ij7, ad7 eZ7, and_assoc]
theorem kH7 {a b : mC7} : AV.agg [.ro (List.map br7 a.up), .v (.string a.note), .ro (List.map (cF7 false) a.diff)] = AV.agg [.ro (List.map br7 b.up), .v (.string b.note), .ro (List.map (cF7 false) b.diff)] ↔ a = b := by
 cases a; cases b; simp [ad7 eY7, ad7 ds7]
theorem il7 {a b : Commit} : AV.agg [.ro (List.map br7 a.up), .ro (List.map (ag7 false) a.sheet), .v (.string a.note)] = AV.agg [.ro (List.map br7 b.up), .ro (List.map (ag7 false) b.sheet), .v (.string b.note)] ↔ a = b := by
 cases a; cases b; simp [ad7 eY7, ad7 d07]
theorem p87 {a b : Commit} : AV.rptr [.sl false 1 (List.map br7 a.up), .sl false 4 (List.map (ag7 false) a.sheet), .v (.string a.note)] = AV.rptr [.sl false 1 (List.map br7 b.up), .sl false 4 (List.map (ag7 false) b.sheet), .v (.string b.note)] ↔ a = b := by
 cases a; cases b; simp [ad7 eY7, ad7 d07]
theorem wV7 {a b : an7} : AV.rptr [.sl false 3 (List.map (af7 false) a.commits), .sl false 2 (List.map av7 a.heads)] = AV.rptr [.sl false 3 (List.map (af7 false) b.commits), .sl false 2 (List.map av7 b.heads)] ↔ a = b := by
 cases a; cases b; simp [ad7 dt7, ad7 gz7]
theorem wW7 {a b : Feat} : AV.rptr [.v (.string a.id), .v (.int .i64 a.shape.kind), .sl false 2 (List.map ePt a.shape.pts), .sl false 2 (List.map bc7 a.tags)] = AV.rptr [.v (.string b.id), .v (.int .i64 b.shape.kind), .sl false 2 (List.map ePt b.shape.pts), .sl false 2 (List.map bc7 b.tags)] ↔ a = b := by
 obtain ⟨i, ⟨k, p⟩, t⟩ := a; obtain ⟨i', ⟨k', p'⟩, t'⟩ := b
 simp [ad7 ij7, ad7 eZ7, and_assoc]
theorem ou7 {a b : an7} : AV.agg [.ro (List.map (af7 false) a.commits), .ro (List.map av7 a.heads)] = AV.agg [.ro (List.map (af7 false) b.commits), .ro (List.map av7 b.heads)] ↔ a = b := by
 cases a; cases b; simp [ad7 dt7, ad7 gz7]
end
theorem Dq7 (hmix : P.follows .mixedOrders = true) {c : Con} (cs : List Con) {ir : IFn} {kss : List (List (Option Nat))} (hcs : ∀ c, c ∈ cs → ah7 P tb c) (hk : uQ7 P tb c.f ir = true)
  (hd : ∀ G, (∀ c, c ∈ cs → Has G c) → ∀ a b, c.val a = some b → Bl7 G ir kss (c.args a) (c.ins a) (c.ans a b)) (hn : uZ7 (GK7 cs) = true := by exact rfl) (hl : ∀ a, (c.args a).length ≤ ir.ntmps := by exact fun _ => Nat.le_of_ble_eq_true rfl)
  (hi : ∀ a a', c.args a = c.args a' → c.ins a = c.ins a' → a = a' := by (intro a a' h _; (conv at h => lhs; whnf); (conv at h => rhs; whnf); (try simp only [List.cons.injEq, and_true, AV.v.injEq, AV.ro.injEq, Value.int.injEq, Value.string.injEq, Value.bool.injEq, true_and, ad7 eY7, ad7 j17, ad7 eM7, ad7 ij7, ad7 eZ7, ad7 gz7, ad7 gV7, ad7 jt7, ad7 d07, ad7 ds7, ad7 gW7, ad7 dt7, ad7 (sf7 eM7), ad7 (sf7 eY7), zI7, ts7, or7, kE7, os7, tt7, kF7, ot7, kG7, ik7, kH7, il7, ou7, AV.fn.injEq, p87, wV7, wW7] at h); (try simp only [AV.rptr.injEq, T.v.injEq, List.cons.injEq, and_true, Value.int.injEq, Value.string.injEq, Value.bool.injEq, true_and] at h); first | exact h | exact rfl | exact (Value.int.inj h).2 | exact Value.string.inj h | exact Value.bool.inj h | exact (ad7 eY7).1 h | exact (ad7 j17).1 h | exact (ad7 eM7).1 h | exact (ad7 ij7).1 h | exact (ad7 eZ7).1 h | exact (ad7 gz7).1 h | exact (ad7 gV7).1 h | exact (ad7 jt7).1 h | exact (ad7 d07).1 h | exact (ad7 ds7).1 h | exact (ad7 gW7).1 h | exact (ad7 dt7).1 h | exact (ad7 (sf7 eM7)).1 h | exact zI7.1 h | exact ts7.1 h | exact or7.1 h | exact kE7.1 h | exact os7.1 h | exact tt7.1 h | exact kF7.1 h | exact ot7.1 h | exact kG7.1 h | exact ik7.1 h | exact kH7.1 h | exact il7.1 h | exact ou7.1 h | exact Prod.ext h.1 h.2 | exact Prod.ext h.1 (Prod.ext h.2.1 h.2.2) | exact Prod.ext h.1 (Prod.ext h.2.1 (Prod.ext h.2.2.1 h.2.2.2)) | exact Prod.ext h.1 (Prod.ext h.2.1 (Prod.ext h.2.2.1 (Prod.ext h.2.2.2.1 h.2.2.2.2))))) : ah7 P tb c :=
 ⟨hi, fun a b hv => Cs7 hmix (p67 hcs) hk (hl a) (hd _ (tr7 hn fun c hc => (hcs c hc).1) a b hv)⟩
theorem GM7 {a b : an7} (h0 : a.commits = b.commits) (h1 : a.heads = b.heads) : a = b := by cases a; cases b; simp_all
theorem Q37 {a b : Pt} (h0 : a.x = b.x) (h1 : a.y = b.y) : a = b := by cases a; cases b; simp_all
theorem Ns7 {a b : Tag} (h0 : a.key = b.key) (h1 : a.val = b.val) : a = b := by cases a; cases b; simp_all
theorem GN7 {a b : Head} (h0 : a.name = b.name) (h1 : a.at_ = b.at_) : a = b := by cases a; cases b; simp_all
theorem Dr7 {a b : aS7} (h0 : a.kind = b.kind) (h1 : a.pts = b.pts) : a = b := by cases a; cases b; simp_all
theorem GO7 {a b : Feat} (h0 : a.id = b.id) (h1 : a.shape = b.shape) (h2 : a.tags = b.tags) : a = b := by cases a; cases b; simp_all
theorem zJ7 {a b : jY7} (h0 : a.id = b.id) (h1 : a.had = b.had) (h2 : a.was = b.was) (h3 : a.has = b.has) (h4 : a.now = b.now) : a = b := by cases a; cases b; simp_all
theorem Ds7 {a b : mC7} (h0 : a.up = b.up) (h1 : a.note = b.note) (h2 : a.diff = b.diff) : a = b := by cases a; cases b; simp_all
theorem zK7 {a b : Commit} (h0 : a.up = b.up) (h1 : a.sheet = b.sheet) (h2 : a.note = b.note) : a = b := by cases a; cases b; simp_all
theorem Dt7 {a b : aG7} (h0 : a.id = b.id) (h1 : a.what = b.what) : a = b := by cases a; cases b; simp_all
theorem GP7 {a b : d67} (h0 : a.a = b.a) (h1 : a.b = b.b) : a = b := by cases a; cases b; simp_all
theorem Nt7 {a b : Val} (h0 : a.has = b.has) (h1 : a.val = b.val) : a = b := by cases a; cases b; simp_all
theorem Du7 {a b : dq7} (h0 : a.has = b.has) (h1 : a.f = b.f) : a = b := by cases a; cases b; simp_all
theorem Q47 {a b : Rd} (h0 : a.b = b.b) (h1 : a.p = b.p) : a = b := by cases a; cases b; simp_all
theorem at7 {c : Con} {cs : List Con} {ir : IFn} {kss : List (List (Option Nat))} (hmix : P.follows .mixedOrders = true) (hd : OkC cs c ir kss) (hcs : ∀ c, c ∈ cs → ah7 P tb c) (hk : uQ7 P tb c.f ir = true := by kernel_rfl) (hn : uZ7 (GK7 cs) = true := by exact rfl) (hl : ∀ a, (c.args a).length ≤ ir.ntmps := by exact fun _ => Nat.le_of_ble_eq_true rfl)
  (hi : ∀ a a', c.args a = c.args a' → c.ins a = c.ins a' → a = a' := by (intro a a' h _; (conv at h => lhs; whnf); (conv at h => rhs; whnf); (try simp only [List.cons.injEq, and_true, AV.v.injEq, AV.ro.injEq, Value.int.injEq, Value.string.injEq, Value.bool.injEq, true_and, ad7 eY7, ad7 j17, ad7 eM7, ad7 ij7, ad7 eZ7, ad7 gz7, ad7 gV7, ad7 jt7, ad7 d07, ad7 ds7, ad7 gW7, ad7 dt7, ad7 (sf7 eM7), ad7 (sf7 eY7), zI7, ts7, or7, kE7, os7, tt7, kF7, ot7, kG7, ik7, kH7, il7, ou7, AV.fn.injEq, p87, wV7, wW7] at h); (try simp only [AV.rptr.injEq, T.v.injEq, List.cons.injEq, and_true, Value.int.injEq, Value.string.injEq, Value.bool.injEq, true_and] at h); first | exact h | exact rfl | exact (Value.int.inj h).2 | exact Value.string.inj h | exact Value.bool.inj h | exact (ad7 eY7).1 h | exact (ad7 j17).1 h | exact (ad7 eM7).1 h | exact (ad7 ij7).1 h | exact (ad7 eZ7).1 h | exact (ad7 gz7).1 h | exact (ad7 gV7).1 h | exact (ad7 jt7).1 h | exact (ad7 d07).1 h | exact (ad7 ds7).1 h | exact (ad7 gW7).1 h | exact (ad7 dt7).1 h | exact (ad7 (sf7 eM7)).1 h | exact zI7.1 h | exact ts7.1 h | exact or7.1 h | exact kE7.1 h | exact os7.1 h | exact tt7.1 h | exact kF7.1 h | exact ot7.1 h | exact kG7.1 h | exact ik7.1 h | exact kH7.1 h | exact il7.1 h | exact ou7.1 h | exact Prod.ext h.1 h.2 | exact Prod.ext h.1 (Prod.ext h.2.1 h.2.2) | exact Prod.ext h.1 (Prod.ext h.2.1 (Prod.ext h.2.2.1 h.2.2.2)) | exact Prod.ext h.1 (Prod.ext h.2.1 (Prod.ext h.2.2.1 (Prod.ext h.2.2.2.1 h.2.2.2.2))))) : ah7 P tb c := Dq7 hmix cs hcs hk hd hn hl hi
theorem df7 {c : Con} {cs : List Con} {ir : IFn} {kss : List (List (Option Nat))} (hmix : P.follows .mixedOrders = true) (hd : OkC cs c ir kss) (hcs : ∀ c, c ∈ cs → ah7 P tb c) (hk : uQ7 P tb c.f ir = true := by kernel_rfl) (hn : uZ7 (GK7 cs) = true := by exact rfl) (hl : ∀ a, (c.args a).length ≤ ir.ntmps := by exact fun _ => Nat.le_of_ble_eq_true rfl)
  (hi : ∀ a a', c.args a = c.args a' → c.ins a = c.ins a' → a = a' := by (intro a a' h1 h2; (conv at h1 => lhs; whnf); (conv at h1 => rhs; whnf); (conv at h2 => lhs; whnf); (conv at h2 => rhs; whnf); (try simp only [AV.agg.injEq, AV.io.injEq, AV.pio.injEq, T.sl.injEq, T.v.injEq, T.rw.injEq, AV.raw.injEq, AV.v.injEq, AV.ro.injEq, List.cons.injEq, Value.int.injEq, Value.string.injEq, Value.bool.injEq, Prod.mk.injEq, ad7 eY7, ad7 j17, ad7 eM7, ad7 GL7, ad7 ij7, ad7 eZ7, ad7 gz7, ad7 gV7, ad7 jt7, ad7 d07, ad7 ds7, ad7 gW7, ad7 dt7, true_and, and_true] at h1); (try simp only [AV.agg.injEq, AV.io.injEq, AV.pio.injEq, T.sl.injEq, T.v.injEq, T.rw.injEq, AV.raw.injEq, AV.v.injEq, AV.ro.injEq, List.cons.injEq, Value.int.injEq, Value.string.injEq, Value.bool.injEq, Prod.mk.injEq, ad7 eY7, ad7 j17, ad7 eM7, ad7 GL7, ad7 ij7, ad7 eZ7, ad7 gz7, ad7 gV7, ad7 jt7, ad7 d07, ad7 ds7, ad7 gW7, ad7 dt7, true_and, and_true] at h2); (repeat' (first | apply Prod.ext | apply GM7 | apply Q37 | apply Ns7 | apply GN7 | apply Dr7 | apply GO7 | apply zJ7 | apply Ds7 | apply zK7 | apply Dt7 | apply GP7 | apply Nt7 | apply Du7 | apply Q47)) <;> first | exact rfl | (simp_all; done))) : ah7 P tb c := Dq7 hmix cs hcs hk hd hn hl hi
end Go.Proofs.AM
