/-
  Regions that draw their order and whose operations only make memory, beside calls: one walk in the order of the text serves every order.
  Regions that draw their order: the walk in the order of the text.
-/
import Derived.Test.YtffbipcdlnfihaaCore
namespace Go.Proofs.Ytffbipcdlnfihaa
open Go.RowKit

section
variable {P : Program} {ops : Array Oper}

def dstOf (ops : Array Oper) (i : Nat) : Option Tmp := (ops[i]?).bind (·.dst)
def putAll (ops : Array Oper) (val : Nat → Value) (l : List Nat) (a : Act) : Act := l.foldl (fun a j => a.put (dstOf ops j) (val j)) a
theorem putAll_snoc (val : Nat → Value) (l : List Nat) (i : Nat) (a : Act) : putAll ops val (l ++ [i]) a = (putAll ops val l a).put (dstOf ops i) (val i) := by
  simp [putAll]
theorem putAll_cons (val : Nat → Value) (l : List Nat) (i : Nat) (a : Act) : putAll ops val (i :: l) a = putAll ops val l (a.put (dstOf ops i) (val i)) := rfl
theorem put_size (a : Act) (d : Option Tmp) (v : Value) : (a.put d v).tmps.size = a.tmps.size := by
  cases d <;> simp [Act.put]
theorem put_defers (a : Act) (d : Option Tmp) (v : Value) : (a.put d v).defers = a.defers := by
  cases d <;> simp [Act.put]
theorem put_get (a : Act) (d : Option Tmp) (v : Value) (t : Tmp) : (a.put d v).tmps[t]? = if d = some t then (if t < a.tmps.size then some v else none) else a.tmps[t]? := by
  cases d with
  | none => simp [Act.put]
  | some d =>
    by_cases h : d = t
    · subst h
      simp only [Act.put, if_true]
      rw [Array.getElem?_setIfInBounds_self]
    · rw [if_neg (by simpa using h)]
      simp [Act.put, Array.getElem?_setIfInBounds_ne h]
theorem putAll_size (val : Nat → Value) (l : List Nat) : ∀ a, (putAll ops val l a).tmps.size = a.tmps.size := by
  induction l with
  | nil => intro a; rfl
  | cons i l ih => intro a; rw [putAll_cons, ih, put_size]
theorem putAll_defers (val : Nat → Value) (l : List Nat) : ∀ a, (putAll ops val l a).defers = a.defers := by
  induction l with
  | nil => intro a; rfl
  | cons i l ih => intro a; rw [putAll_cons, ih, put_defers]
/-- A temporary that none of them writes. -/
theorem putAll_other (val : Nat → Value) (t : Tmp) (l : List Nat) (h : ∀ j ∈ l, dstOf ops j ≠ some t) : ∀ a, (putAll ops val l a).tmps[t]? = a.tmps[t]? := by
  induction l with
  | nil => intro a; rfl
  | cons i l ih =>
    intro a
    rw [putAll_cons, ih (fun j hj => h j (by simp [hj])), put_get, if_neg (h i (by simp))]
/-- One that one of them writes. -/
theorem putAll_at (val : Nat → Value) (t : Tmp) (j : Nat) (hd : dstOf ops j = some t) (l : List Nat) (hj : j ∈ l) (hu : ∀ i ∈ l, dstOf ops i = some t → i = j) :
    ∀ a, (putAll ops val l a).tmps[t]? = if t < a.tmps.size then some (val j) else none := by
  induction l with
  | nil => simp at hj
  | cons i l ih =>
    intro a
    rw [putAll_cons]
    by_cases hjl : j ∈ l
    · rw [ih hjl (fun i hi => hu i (by simp [hi])), put_size]
    · have hij : i = j := by
        rcases List.mem_cons.1 hj with h | h
        · exact h.symm
        · exact absurd h hjl
      subst hij
      rw [putAll_other val t l (fun k hk hkd => hjl (by rw [← hu k (by simp [hk]) hkd]; exact hk)), put_get, if_pos hd]
theorem eval_of {a b : Act} {t : Tmp} (h : a.tmps[t]? = b.tmps[t]?) : a.eval (.tmp t) = b.eval (.tmp t) := by
  simp only [Act.eval, Array.getD_eq_getD_getElem?, h]
theorem act_ext {a b : Act} (h : ∀ t : Nat, a.tmps[t]? = b.tmps[t]?) (hd : a.defers = b.defers) : a = b := by
  obtain ⟨x, y⟩ := a
  obtain ⟨x', y'⟩ := b
  have : x = x' := by
    apply Array.ext'
    apply List.ext_getElem?
    intro t
    have := h t
    simpa using this
  subst this
  have : y = y' := hd
  subst this
  rfl

/-- What is looked at, op by op. -/
def looks (ops : Array Oper) (i : Nat) : List Tmp := match ops[i]? with | some o => o.looksAt ops | none => []
def hasEdge (ops : Array Oper) (i j : Nat) : Bool := match ops[i]? with | some o => o.after.any fun e => e.on == j && Region.binds .any e | none => false
/-- The operations behind which one stands, by the edges of those among the first N. -/
def ancs (ops : Array Oper) (N i : Nat) : Nat → List Nat
  | 0 => []
  | d + 1 => if hasEdge ops i (N - 1 - d) || (ancs ops N i d).any (fun s => hasEdge ops s (N - 1 - d)) then (N - 1 - d) :: ancs ops N i d else ancs ops N i d
def plainOp (o : Oper) : Bool := o.guard.isNone && (match o.op with | .select _ _ => false | _ => true)
/-- The form of a region: unguarded; each operation reads what ones behind which it stands have written; no two write one temporary. -/
structure TameForm (ops : Array Oper) (N : Nat) (cl free : List Nat) : Prop where
  le : N ≤ ops.size
  plain : ∀ (i : Nat) (o : Oper), ops[i]? = some o → o.guard = none ∧ ∀ cs b, o.op ≠ .select cs b
  look : ∀ (i : Nat) (t : Tmp) (j : Nat), t ∈ looks ops i → dstOf ops j = some t → hasEdge ops i j = true ∧ j < N
  apart : ∀ (i j : Nat) (t : Tmp), dstOf ops i = some t → dstOf ops j = some t → i = j
  call : ∀ (k c : Nat), cl[k]? = some c → c < N
  chain : ∀ (k c d : Nat), cl[k]? = some c → cl[k + 1]? = some d → hasEdge ops d c = true
  lex : ∀ (i : Nat) (o : Oper) (e : Edge), ops[i]? = some o → e ∈ o.after → Region.binds .any e = true → e.on < i
  last : ∀ (i : Nat), N ≤ i → i < ops.size → dstOf ops i = none ∧ ∀ j, j < i → (j < N ∧ (j ∈ free ∨ N < i)) ∨ hasEdge ops i j = true ∨ (j < N ∧ j ∈ ancs ops N i N)

def opPure (P : Program) (o : Oper) (a : Act) (w : World) (v : Value) : Prop :=
  match (execOp a.eval o).run P w with
  | .ok (.value u) w' => w' = w ∧ u = v
  | .ok .skip w' => w' = w ∧ undef = v
  | _ => False
def opMake (P : Program) (o : Oper) (a : Act) (w : World) (K : Value → World → Prop) : Prop :=
  match (execOp a.eval o).run P w with
  | .ok (.value u) w' => K u w'
  | _ => False
def opCall (P : Program) (o : Oper) (a : Act) (w : World) (v : Value) (K : World → Prop) : Prop :=
  match (execOp a.eval o).run P w with
  | .ok (.enter f args) w' => Calls P f args w' fun e w'' => e = .returned v ∧ K w''
  | _ => False
/-- .. that may end by a panic, too (X: what is known then). -/
def opCallX (P : Program) (o : Oper) (a : Act) (w : World) (v : Value) (X : Ending → World → Prop) (K : World → Prop) : Prop :=
  match (execOp a.eval o).run P w with
  | .ok (.enter f args) w' => Calls P f args w' fun e w'' => (e = .returned v ∧ K w'') ∨ X e w''
  | _ => False
/-- What a region asks where a call in it ends by a panic. -/
def PanQ (Q : Exit → Act → World → Prop) (a0 : Act) (e : Ending) (w : World) : Prop := ∃ ch, e = .panicked ch ∧ ∀ a, a.defers = a0.defers → Q (.panic ch) a w
theorem opCallX_of {P : Program} {o : Oper} {a : Act} {w : World} {v : Value} {X : Ending → World → Prop} {K : World → Prop} (h : opCall P o a w v K) : opCallX P o a w v X K := by
  unfold opCall at h
  unfold opCallX
  generalize (execOp a.eval o).run P w = r at *
  cases r with
  | ok n w' =>
    cases n <;> simp only [] at h
    exact h.mono fun e w'' h => .inl h
  | halt x w' => exact h.elim
theorem opCallX_mono {P : Program} {o : Oper} {a : Act} {w : World} {v : Value} {X X' : Ending → World → Prop} {K K' : World → Prop} (h : opCallX P o a w v X K) (hx : ∀ e w, X e w → X' e w) (hk : ∀ w, K w → K' w) : opCallX P o a w v X' K' := by
  unfold opCallX at h ⊢
  generalize (execOp a.eval o).run P w = r at *
  cases r with
  | ok n w' =>
    cases n <;> simp only [] at h
    refine h.mono fun e w'' h => ?_
    rcases h with ⟨h1, h2⟩ | h
    · exact .inl ⟨h1, hk _ h2⟩
    · exact .inr (hx _ _ h)
  | halt x w' => exact h.elim
theorem opPure_eq {o : Oper} {a : Act} {w : World} {v v' : Value} (h : opPure P o a w v) (h' : opPure P o a w v') : v = v' := by
  unfold opPure at h h'
  generalize (execOp a.eval o).run P w = r at *
  cases r with
  | ok n w' =>
    cases n <;> simp only [] at h h'
    · exact h.2.symm.trans h'.2
    · exact h.2.symm.trans h'.2
  | halt x w' => exact h.elim
theorem opWp_pure {o : Oper} {a : Act} {w : World} {v : Value} {K : Act → World → Prop} {Q : Exit → Act → World → Prop} (h : opPure P o a w v) (k : K (a.put o.dst v) w) : o.wp P a w K Q := by
  unfold opPure at h
  unfold Oper.wp
  generalize (execOp a.eval o).run P w = r at *
  cases r with
  | ok n w' =>
    cases n <;> simp only [] at h
    · obtain ⟨rfl, rfl⟩ := h; exact k
    · obtain ⟨rfl, rfl⟩ := h; exact k
  | halt x w' => exact h.elim
theorem opWp_make {o : Oper} {a : Act} {w : World} {J : Value → World → Prop} {K : Act → World → Prop} {Q : Exit → Act → World → Prop} (h : opMake P o a w J) (k : ∀ u w', J u w' → K (a.put o.dst u) w') : o.wp P a w K Q := by
  unfold opMake at h
  unfold Oper.wp
  generalize (execOp a.eval o).run P w = r at *
  cases r with
  | ok n w' =>
    cases n <;> simp only [] at h
    exact k _ _ h
  | halt x w' => exact h.elim
theorem opWp_call {o : Oper} {a : Act} {w : World} {v : Value} {J : World → Prop} {K : Act → World → Prop} {Q : Exit → Act → World → Prop} (h : opCall P o a w v J) (k : ∀ w', J w' → K (a.put o.dst v) w') : o.wp P a w K Q := by
  unfold opCall at h
  unfold Oper.wp
  generalize (execOp a.eval o).run P w = r at *
  cases r with
  | ok n w' =>
    cases n <;> simp only [] at h
    refine h.mono fun e w'' ⟨he, hk⟩ => ?_
    subst he
    exact k _ hk
  | halt x w' => exact h.elim
theorem opWp_callX {o : Oper} {a : Act} {w : World} {v : Value} {J : World → Prop} {K : Act → World → Prop} {Q : Exit → Act → World → Prop} {a0 : Act} (hd : a.defers = a0.defers) (h : opCallX P o a w v (PanQ Q a0) J) (k : ∀ w', J w' → K (a.put o.dst v) w') : o.wp P a w K Q := by
  unfold opCallX at h
  unfold Oper.wp
  generalize (execOp a.eval o).run P w = r at *
  cases r with
  | ok n w' =>
    cases n <;> simp only [] at h
    refine h.mono fun e w'' h => ?_
    rcases h with ⟨he, hk⟩ | ⟨ch, he, hq⟩
    · subst he
      exact k _ hk
    · subst he
      exact hq a hd
  | halt x w' => exact h.elim
theorem opAt_congr {o : Oper} {a b : Act} (h : execOp a.eval o = execOp b.eval o) :
    (∀ w v, opPure P o a w v ↔ opPure P o b w v) ∧ (∀ w K, opMake P o a w K ↔ opMake P o b w K) ∧ (∀ w v X K, opCallX P o a w v X K ↔ opCallX P o b w v X K) := by
  refine ⟨fun w v => ?_, fun w K => ?_, fun w v X K => ?_⟩
  · unfold opPure; rw [h]
  · unfold opMake; rw [h]
  · unfold opCallX; rw [h]
def opStore (P : Program) (o : Oper) (a : Act) (w : World) (K : World → Prop) : Prop :=
  match (execOp a.eval o).run P w with
  | .ok .skip w' => K w'
  | .ok (.value _) w' => K w'
  | _ => False
theorem opWp_store {o : Oper} {a : Act} {w : World} {J : World → Prop} {K : Act → World → Prop} {Q : Exit → Act → World → Prop} (hd : o.dst = none) (h : opStore P o a w J) (k : ∀ w', J w' → K a w') : o.wp P a w K Q := by
  unfold opStore at h
  unfold Oper.wp
  generalize (execOp a.eval o).run P w = r at *
  have hp : ∀ v, a.put o.dst v = a := fun v => by rw [hd]; rfl
  cases r with
  | ok n w' =>
    cases n <;> simp only [] at h
    · show K (a.put o.dst _) w'; rw [hp]; exact k _ h
    · show K (a.put o.dst _) w'; rw [hp]; exact k _ h
  | halt x w' => exact h.elim
/-- The last operations, in order. -/
def tailWp (P : Program) (ops : Array Oper) (a : Act) (Q : World → Prop) : List Nat → World → Prop
  | [], w => Q w
  | i :: rest, w => match ops[i]? with
    | some o => opStore P o a w (tailWp P ops a Q rest)
    | none => False
def blkOf : Value → Option Nat
  | .pointer (some a) => some a.block
  | .slice (some a) _ _ => some a.block
  | _ => none
def Old (u : Value) (w : World) : Prop := ∀ b, blkOf u = some b → b < w.heap.size
def Fresh (u : Value) (w : World) : Prop := ∀ b, blkOf u = some b → w.heap.size ≤ b
/-- Two values do not point into one block. -/
def Differ (u v : Value) : Prop := blkOf u = none ∨ blkOf u ≠ blkOf v
theorem differ_of {u v : Value} {w : World} (h : Fresh u w) (k : Old v w) : Differ u v ∧ Differ v u := by
  unfold Differ
  cases hu : blkOf u with
  | none =>
    refine ⟨.inl rfl, ?_⟩
    cases hv : blkOf v with
    | none => exact .inl rfl
    | some c => exact .inr (by simp)
  | some b =>
    have h1 := h b hu
    cases hv : blkOf v with
    | none => exact ⟨.inr (by simp), .inl rfl⟩
    | some c =>
      have h2 := k c hv
      exact ⟨.inr (by simp; omega), .inr (by simp; omega)⟩
/-- What is asked of a region. -/
structure Tame (P : Program) (ops : Array Oper) (N : Nat) (cl free : List Nat) (mk : Nat → Bool) (T : World → World → Prop) (W : Nat → World → Prop) (R : Nat → Value → World → Prop)
    (val : (Nat → Value) → Nat → Value) (a0 : Act) (w0 : World) (Q : Exit → Act → World → Prop) : Prop where
  form : TameForm ops N cl free
  refl : ∀ w, T w w
  trans : ∀ w w' w'', T w w' → T w' w'' → T w w''
  stable : ∀ i u w w', R i u w → T w w' → R i u w'
  old : ∀ i u w, R i u w → Old u w
  start : W 0 w0
  vmake : ∀ p i, mk i = true → val p i = p i
  vcong : ∀ p p' : Nat → Value, (∀ j, mk j = true → p j = p' j) → val p = val p'
  vcall : ∀ p p' c, c ∈ cl → val p c = val p' c
  pure : ∀ (p : Nat → Value) (i : Nat) (o : Oper), i < N → mk i = false → i ∉ cl → ops[i]? = some o → ∀ w, T w0 w → (∀ j, hasEdge ops i j = true → mk j = true → R j (p j) w) → opPure P o (putAll ops (val p) (List.range N) a0) w (val p i)
  frees : ∀ (p : Nat → Value) (i : Nat) (o : Oper), i < N → i ∈ free → ops[i]? = some o → ∀ w, opPure P o (putAll ops (val p) (List.range N) a0) w (val p i)
  make : ∀ (p : Nat → Value) (i : Nat) (o : Oper), i < N → mk i = true → ops[i]? = some o → ∀ w, T w0 w → (∀ j, hasEdge ops i j = true → mk j = true → R j (p j) w) →
    opMake P o (putAll ops (val p) (List.range N) a0) w fun u w' => T w w' ∧ R i u w' ∧ (∀ k, W k w → W k w') ∧ Fresh u w
  calls : ∀ (p : Nat → Value) (k c : Nat) (o : Oper), cl[k]? = some c → ops[c]? = some o → ∀ w, T w0 w → W k w → (∀ j, hasEdge ops c j = true → mk j = true → R j (p j) w) →
    opCallX P o (putAll ops (val p) (List.range N) a0) w (val p c) (PanQ Q a0) fun w' => T w w' ∧ W (k + 1) w'
  notboth : ∀ i, mk i = true → i ∉ cl ∧ i ∉ free ∧ i < N
  nofree : ∀ i, i ∈ free → i ∉ cl
  done : ∀ p w, T w0 w → W cl.length w → (∀ j, mk j = true → R j (p j) w) → (∀ j j', mk j = true → mk j' = true → j ≠ j' → Differ (p j) (p j')) → tailWp P ops (putAll ops (val p) (List.range N) a0) (fun w' => Q .normal (putAll ops (val p) (List.range N) a0) w') (List.range' N (ops.size - N)) w

variable {N : Nat} {cl free : List Nat} {mk : Nat → Bool} {T : World → World → Prop} {W : Nat → World → Prop} {R : Nat → Value → World → Prop} {val : (Nat → Value) → Nat → Value} {a0 : Act} {w0 : World} {Q : Exit → Act → World → Prop}
/-- Two frames agree on what an operation looks at. -/
theorem frames_agree (hf : TameForm ops N cl free) {i : Nat} {o : Oper} (ho : ops[i]? = some o) {L L' : List Nat} {f g : Nat → Value} (h1 : ∀ j, hasEdge ops i j = true → j < N → j ∈ L) (h2 : ∀ j, j < N → j ∈ L')
    (hv : ∀ j ∈ L, f j = g j) : execOp (putAll ops f L a0).eval o = execOp (putAll ops g L' a0).eval o := by
  refine execOp_congr o (hf.plain i o ho).2 fun x hx => ?_
  cases x with
  | tmp t =>
    have ht : t ∈ looks ops i := by
      unfold looks
      rw [ho]
      exact List.mem_append_left _ (List.mem_filterMap.2 ⟨.tmp t, by simpa using hx, rfl⟩)
    apply eval_of
    by_cases hw : ∃ j, dstOf ops j = some t
    · obtain ⟨j, hj⟩ := hw
      obtain ⟨he, hjN⟩ := hf.look i t j ht hj
      have hjL := h1 j he hjN
      rw [putAll_at f t j hj L hjL (fun i _ hi => hf.apart i j t hi hj), putAll_at g t j hj L' (h2 j hjN) (fun i _ hi => hf.apart i j t hi hj), hv j hjL]
    · rw [putAll_other f t L (fun j _ hj => hw ⟨j, hj⟩), putAll_other g t L' (fun j _ hj => hw ⟨j, hj⟩)]
  | _ => rfl
theorem frames_eq (hf : TameForm ops N cl free) {L L' : List Nat} {f g : Nat → Value} (h1 : ∀ j, j ∈ L ↔ j ∈ L') (hv : ∀ j ∈ L, f j = g j) : putAll ops f L a0 = putAll ops g L' a0 := by
  refine act_ext (fun t => ?_) (by rw [putAll_defers, putAll_defers])
  by_cases hw : ∃ j, j ∈ L ∧ dstOf ops j = some t
  · obtain ⟨j, hjL, hj⟩ := hw
    rw [putAll_at f t j hj L hjL (fun i _ hi => hf.apart i j t hi hj), putAll_at g t j hj L' ((h1 j).1 hjL) (fun i _ hi => hf.apart i j t hi hj), hv j hjL]
  · rw [putAll_other f t L (fun j h hj => hw ⟨j, h, hj⟩), putAll_other g t L' (fun j h hj => hw ⟨j, (h1 j).2 h, hj⟩)]
/-- How far a run has come. -/
structure Midway (h : Tame P ops N cl free mk T W R val a0 w0 Q) (listed : Array Bool) (L : List Nat) (τ : Nat) (act : Nat → Value) (a : Act) (w : World) : Prop where
  size : listed.size = ops.size
  isl : ∀ i, i < ops.size → (listed.getD i true = true ↔ (i ∈ L ∨ (N ≤ i ∧ i < N + τ)))
  inL : ∀ i ∈ L, i < N
  shut : ∀ j ∈ L, ∀ k, hasEdge ops j k = true → k < N → k ∈ L
  frame : a = putAll ops act L a0
  vals : ∀ p, (∀ j ∈ L, mk j = true → p j = act j) → ∀ j ∈ L, val p j = act j
  le : N + τ ≤ ops.size
  first : τ = 0 → T w0 w ∧ (∀ j ∈ L, mk j = true → R j (act j) w) ∧ (∀ j ∈ L, ∀ j' ∈ L, mk j = true → mk j' = true → j ≠ j' → Differ (act j) (act j')) ∧ ∃ k, k ≤ cl.length ∧ W k w ∧ ∀ j c, cl[j]? = some c → (c ∈ L ↔ j < k)
  later : 0 < τ → (∀ j, j < N → j ∉ free → j ∈ L) ∧ tailWp P ops (putAll ops (val act) (List.range N) a0) (fun w' => Q .normal (putAll ops (val act) (List.range N) a0) w') (List.range' (N + τ) (ops.size - (N + τ))) w

/-- What stands before is listed, if what stands right before is. -/
theorem ancs_in {L : List Nat} {i : Nat} (h1 : ∀ k, hasEdge ops i k = true → k < N → k ∈ L) (h2 : ∀ j ∈ L, ∀ k, hasEdge ops j k = true → k < N → k ∈ L) (hN : 0 < N) : ∀ d, ∀ j ∈ ancs ops N i d, j ∈ L := by
  intro d
  induction d with
  | zero => intro j hj; cases hj
  | succ d ih =>
    intro j hj
    unfold ancs at hj
    split at hj
    · rename_i hc
      rcases List.mem_cons.1 hj with rfl | hj
      · rw [Bool.or_eq_true, List.any_eq_true] at hc
        rcases hc with hc | ⟨s, hs, hc⟩
        · exact h1 _ hc (by omega)
        · exact h2 s (ih s hs) _ hc (by omega)
      · exact ih j hj
    · exact ih j hj
theorem ready_iff (listed : Array Bool) (i : Nat) : i ∈ Region.ready .any ops listed ↔ i < ops.size ∧ listed.getD i true = false ∧ ∀ o, ops[i]? = some o → ∀ e ∈ o.after, Region.binds .any e = true → listed.getD e.on false = true := by
  unfold Region.ready
  rw [List.mem_filter, List.mem_range, Bool.and_eq_true]
  constructor
  · rintro ⟨h1, h2, h3⟩
    refine ⟨h1, by simpa using h2, fun o ho e he hb => ?_⟩
    rw [ho] at h3
    simp only [Option.map_some, Option.getD_some, Array.all_eq_true_iff_forall_mem] at h3
    have := h3 e he
    simpa [hb] using this
  · rintro ⟨h1, h2, h3⟩
    refine ⟨h1, by simp [h2], ?_⟩
    have ho : ops[i]? = some ops[i] := Array.getElem?_eq_getElem h1
    rw [ho]
    simp only [Option.map_some, Option.getD_some, Array.all_eq_true_iff_forall_mem]
    intro e he
    by_cases hb : Region.binds .any e = true
    · simp [hb, h3 _ ho e he hb]
    · simp [hb]
theorem all_listed (hf : TameForm ops N cl free) (listed : Array Bool) (hs : listed.size = ops.size) (h : Region.ready .any ops listed = []) : ∀ i, i < ops.size → listed.getD i true = true := by
  intro i
  induction i using Nat.strongRecOn with
  | ind i ih =>
    intro hi
    cases hl : listed.getD i true with
    | true => rfl
    | false =>
      have : i ∈ Region.ready .any ops listed := (ready_iff listed i).2 ⟨hi, hl, fun o ho e he hb => by
        have hlt := hf.lex i o e ho he hb
        have := ih e.on hlt (by omega)
        rw [Array.getD_eq_getD_getElem?] at this ⊢
        rw [Array.getElem?_eq_getElem (by omega)] at this ⊢
        simpa using this⟩
      rw [h] at this
      cases this
theorem filter_lt {α : Type} (p q : α → Bool) (hq : ∀ x, q x = true → p x = true) : ∀ (l : List α) (i : α), i ∈ l → p i = true → q i = false → (l.filter q).length < (l.filter p).length
  | [], _, h, _, _ => by simp at h
  | x :: l, i, h, hp, hn => by
    have hle : ∀ l : List α, (l.filter q).length ≤ (l.filter p).length := by
      intro l
      induction l with
      | nil => simp
      | cons y l ih =>
        by_cases h1 : q y = true
        · simp [h1, hq y h1, ih]
        · by_cases h2 : p y = true <;> simp [h1, h2] <;> omega
    rcases List.mem_cons.1 h with rfl | h
    · have := hle l
      simp [hp, hn]; omega
    · have := filter_lt p q hq l i h hp hn
      by_cases h1 : q x = true
      · simp [h1, hq x h1]; omega
      · by_cases h2 : p x = true <;> simp [h1, h2] <;> omega
def unlisted (ops : Array Oper) (listed : Array Bool) : Nat := ((List.range ops.size).filter fun i => !listed.getD i true).length
theorem unlisted_lt (listed : Array Bool) (hs : listed.size = ops.size) (i : Nat) (hi : i < ops.size) (hl : listed.getD i true = false) : unlisted ops (listed.setIfInBounds i true) < unlisted ops listed := by
  refine filter_lt _ _ (fun x hx => ?_) _ i (by simpa using hi) (by simp [hl]) ?_
  · by_cases hxi : x = i
    · subst hxi; simp [hl]
    · simp only [Array.getD_eq_getD_getElem?, Array.getElem?_setIfInBounds_ne (Ne.symm hxi)] at hx ⊢
      exact hx
  · simp only [Array.getD_eq_getD_getElem?]
    rw [Array.getElem?_setIfInBounds_self_of_lt (by omega)]
    rfl
theorem listed_set (listed : Array Bool) (i j : Nat) (hi : i < listed.size) : (listed.setIfInBounds i true).getD j true = (if j = i then true else listed.getD j true) := by
  by_cases h : j = i
  · subst h
    simp only [Array.getD_eq_getD_getElem?]
    rw [Array.getElem?_setIfInBounds_self_of_lt hi]
    simp
  · rw [if_neg h]
    simp only [Array.getD_eq_getD_getElem?, Array.getElem?_setIfInBounds_ne (Ne.symm h)]
theorem edge_of {i j : Nat} (h : hasEdge ops i j = true) : ∃ o e, ops[i]? = some o ∧ e ∈ o.after ∧ e.on = j ∧ Region.binds .any e = true := by
  unfold hasEdge at h
  split at h
  · rename_i o ho
    rw [← Array.any_toList, List.any_eq_true] at h
    obtain ⟨e, he, hb⟩ := h
    have he : e ∈ o.after := by simpa using he
    simp only [Bool.and_eq_true, beq_iff_eq] at hb
    exact ⟨o, e, ho, he, hb.1, hb.2⟩
  · cases h
theorem getD_swap {listed : Array Bool} {i : Nat} (h : listed.getD i false = true) : listed.getD i true = true ∧ i < listed.size := by
  rw [Array.getD_eq_getD_getElem?] at h
  by_cases hi : i < listed.size
  · refine ⟨?_, hi⟩
    rw [Array.getD_eq_getD_getElem?]
    rw [Array.getElem?_eq_getElem hi] at h ⊢
    simpa using h
  · rw [Array.getElem?_eq_none (by omega)] at h
    cases h

theorem Midway.finish {h : Tame P ops N cl free mk T W R val a0 w0 Q} {listed : Array Bool} {L : List Nat} {τ : Nat} {act : Nat → Value} {a : Act} {w : World} (m : Midway h listed L τ act a w) (hall : ∀ i, i < ops.size → listed.getD i true = true) : Q .normal a w := by
  have hN := h.form.le
  have hL : ∀ j, j ∈ L ↔ j ∈ List.range N := by
    intro j
    rw [List.mem_range]
    constructor
    · exact m.inL j
    · intro hj
      rcases (m.isl j (by omega)).1 (hall j (by omega)) with h1 | h1
      · exact h1
      · omega
  have hτ : N + τ = ops.size := by
    rcases Nat.lt_or_ge (N + τ) ops.size with hlt | hge
    · rcases (m.isl (N + τ) hlt).1 (hall _ hlt) with h1 | h1
      · have := m.inL _ h1; omega
      · omega
    · have := m.le; omega
  have hvals : ∀ j ∈ L, act j = val act j := fun j hj => (m.vals act (fun _ _ _ => rfl) j hj).symm
  have hfr : a = putAll ops (val act) (List.range N) a0 := by
    rw [m.frame]
    exact frames_eq h.form hL hvals
  rcases Nat.eq_zero_or_pos τ with h0 | hpos
  · obtain ⟨hT, hR, hD, k, hk, hW, hc⟩ := m.first h0
    have hk' : k = cl.length := by
      rcases Nat.lt_or_ge k cl.length with hlt | hge
      · have := (hc k cl[k] (List.getElem?_eq_getElem hlt)).1 ((hL _).2 (List.mem_range.2 (h.form.call k _ (List.getElem?_eq_getElem hlt))))
        omega
      · omega
    subst hk'
    have := h.done act w hT hW (fun j hj => hR j ((hL j).2 (List.mem_range.2 (h.notboth j hj).2.2)) hj) (fun j j' hj hj' hne => hD j ((hL j).2 (List.mem_range.2 (h.notboth j hj).2.2)) j' ((hL j').2 (List.mem_range.2 (h.notboth j' hj').2.2)) hj hj' hne)
    rw [show ops.size - N = 0 by omega] at this
    rw [hfr]
    exact this
  · have := (m.later hpos).2
    rw [show ops.size - (N + τ) = 0 by omega] at this
    rw [hfr]
    exact this
theorem Midway.agree {h : Tame P ops N cl free mk T W R val a0 w0 Q} {listed : Array Bool} {L : List Nat} {τ : Nat} {act : Nat → Value} {a : Act} {w : World} (m : Midway h listed L τ act a w) {i : Nat} {o : Oper} (ho : ops[i]? = some o)
    (hr : ∀ j, hasEdge ops i j = true → j < N → j ∈ L) (p : Nat → Value) (hp : ∀ j ∈ L, mk j = true → p j = act j) : execOp a.eval o = execOp (putAll ops (val p) (List.range N) a0).eval o := by
  rw [m.frame]
  exact frames_agree h.form ho hr (fun j hj => List.mem_range.2 hj) (fun j hj => (m.vals p hp j hj).symm)
theorem mid_any (h : Tame P ops N cl free mk T W R val a0 w0 Q) : ∀ (fuel : Nat) (listed : Array Bool) (L : List Nat) (τ : Nat) (act : Nat → Value) (a : Act) (w : World), Midway h listed L τ act a w → unlisted ops listed ≤ fuel → wpAny P .any ops Q fuel listed a w
  | 0, listed, L, τ, act, a, w, m, hu => by
    have hz : (List.range ops.size).filter (fun i => !listed.getD i true) = [] := List.eq_nil_of_length_eq_zero (by unfold unlisted at hu; omega)
    have hall : ∀ i, i < ops.size → listed.getD i true = true := by
      intro i hi
      have := List.filter_eq_nil_iff.1 hz i (by simpa using hi)
      simpa using this
    refine ⟨?_, m.finish hall⟩
    apply List.eq_nil_iff_forall_not_mem.2
    intro i hi
    obtain ⟨h1, h2, -⟩ := (ready_iff listed i).1 hi
    rw [hall i h1] at h2
    cases h2
  | fuel + 1, listed, L, τ, act, a, w, m, hu => by
    refine ⟨fun h0 => m.finish (all_listed h.form listed m.size h0), fun i hi => ?_⟩
    obtain ⟨hin, hil, hedge⟩ := (ready_iff listed i).1 hi
    have ho : ops[i]? = some ops[i] := Array.getElem?_eq_getElem hin
    have hplain := h.form.plain i _ ho
    have hE : ∀ j, hasEdge ops i j = true → listed.getD j true = true ∧ j < ops.size := fun j hj => by
      obtain ⟨o, e, ho', he, rfl, hb⟩ := edge_of hj
      have := getD_swap (hedge o ho' e he hb)
      rw [m.size] at this
      exact this
    have hr : ∀ j, hasEdge ops i j = true → j < N → j ∈ L := fun j hj hjN => by
      obtain ⟨h1, h2⟩ := hE j hj
      rcases (m.isl j h2).1 h1 with h3 | h3
      · exact h3
      · omega
    have hiL : i ∉ L := fun hmem => by
      have := (m.isl i hin).2 (.inl hmem)
      rw [this] at hil
      cases hil
    have hu' : unlisted ops (listed.setIfInBounds i true) ≤ fuel := by
      have := unlisted_lt listed m.size i hin hil
      omega
    have hwant : Region.wanted ops[i] (yielded ops a.tmps) = true := by
      unfold Region.wanted
      rw [hplain.1]
    have hset := fun j => listed_set listed i j (by rw [m.size]; exact hin)
    unfold wpOp
    rw [ho]
    simp only [hwant, if_true]
    left
    have hd : dstOf ops i = ops[i].dst := by unfold dstOf; rw [ho]; rfl
    rcases Nat.lt_or_ge i N with hiN | hiN
    · -- one of the first ones
      have hcons : ∀ j ∈ L, mk j = true → act j = act j := fun _ _ _ => rfl
      have hag := opAt_congr (P := P) (m.agree ho hr act hcons)
      -- what becomes of the state, its value being v
      have next : ∀ (v : Value) (w' : World), (∀ p, (∀ j ∈ L, mk j = true → p j = act j) → (mk i = true → p i = v) → val p i = v) →
          (τ = 0 → T w0 w' ∧ (∀ j ∈ L, mk j = true → R j (act j) w') ∧ (mk i = true → R i v w' ∧ ∀ j ∈ L, mk j = true → Differ v (act j) ∧ Differ (act j) v) ∧ ∃ k, k ≤ cl.length ∧ W k w' ∧ ∀ j c, cl[j]? = some c → ((c ∈ L ∨ c = i) ↔ j < k)) →
          (0 < τ → w' = w ∧ mk i = false) → wpAny P .any ops Q fuel (listed.setIfInBounds i true) (a.put ops[i].dst v) w' := by
        intro v w' hv hfirst hlater
        have hact : ∀ j ∈ L, (if j = i then v else act j) = act j := fun j hj => if_neg (fun e => hiL (by rw [← e]; exact hj))
        refine mid_any h fuel _ (L ++ [i]) τ (fun j => if j = i then v else act j) _ w' ⟨?_, ?_, ?_, ?_, ?_, ?_, m.le, ?_, ?_⟩ hu'
        · rw [Array.size_setIfInBounds, m.size]
        · intro j hj
          rw [hset j, List.mem_append, List.mem_singleton]
          by_cases hji : j = i
          · simp [hji]
          · rw [if_neg hji, m.isl j hj]
            simp [hji]
        · intro j hj
          rcases List.mem_append.1 hj with hj | hj
          · exact m.inL j hj
          · rw [List.mem_singleton.1 hj]; exact hiN
        · intro j hj k hjk hkN
          rcases List.mem_append.1 hj with hj | hj
          · exact List.mem_append_left _ (m.shut j hj k hjk hkN)
          · rw [List.mem_singleton.1 hj] at hjk
            exact List.mem_append_left _ (hr k hjk hkN)
        · rw [putAll_snoc, hd, if_pos rfl, m.frame]
          congr 1
          exact frames_eq h.form (fun _ => Iff.rfl) (fun j hj => (hact j hj).symm)
        · intro p hp j hj
          have hp' : ∀ j ∈ L, mk j = true → p j = act j := fun j hj hm => by
            have := hp j (List.mem_append_left _ hj) hm
            simp only [hact j hj] at this
            exact this
          rcases List.mem_append.1 hj with hj | hj
          · simp only [hact j hj]
            exact m.vals p hp' j hj
          · rw [List.mem_singleton.1 hj, if_pos rfl]
            refine hv p hp' (fun hm => ?_)
            have := hp i (by simp) hm
            simpa using this
        · intro h0
          obtain ⟨h1, h2, h3, k, hk, hW, hc⟩ := hfirst h0
          refine ⟨h1, fun j hj hm => ?_, fun j hj j' hj' hm hm' hne => ?_, k, hk, hW, fun j c hjc => ?_⟩
          · rcases List.mem_append.1 hj with hj | hj
            · simp only [hact j hj]; exact h2 j hj hm
            · rw [List.mem_singleton.1 hj] at hm ⊢
              simpa using (h3 hm).1
          · rcases List.mem_append.1 hj with hj | hj
            · simp only [hact j hj]
              rcases List.mem_append.1 hj' with hj' | hj'
              · simp only [hact j' hj']
                exact (m.first h0).2.2.1 j hj j' hj' hm hm' hne
              · rw [List.mem_singleton.1 hj'] at hm' ⊢
                simpa using ((h3 hm').2 j hj hm).2
            · rw [List.mem_singleton.1 hj] at hm hne ⊢
              rcases List.mem_append.1 hj' with hj' | hj'
              · simp only [hact j' hj']
                simpa using ((h3 hm).2 j' hj' hm').1
              · exact absurd (List.mem_singleton.1 hj').symm hne
          · rw [List.mem_append, List.mem_singleton]
            exact hc j c hjc
        · intro hpos
          obtain ⟨rfl, hmk⟩ := hlater hpos
          obtain ⟨h1, h2⟩ := m.later hpos
          refine ⟨fun j hj hf => List.mem_append_left _ (h1 j hj hf), ?_⟩
          have e : putAll ops (val fun j => if j = i then v else act j) (List.range N) a0 = putAll ops (val act) (List.range N) a0 := by
            rw [h.vcong _ act (fun j hm => if_neg (fun e => by rw [e, hmk] at hm; cases hm))]
          rw [e]
          exact h2
      have hphase : i ∉ free → τ = 0 := fun hf => by
        rcases Nat.eq_zero_or_pos τ with h0 | hpos
        · exact h0
        · exact absurd ((m.later hpos).1 i hiN hf) hiL
      have hfacts : τ = 0 → ∀ p : Nat → Value, (∀ j ∈ L, mk j = true → p j = act j) → ∀ j, hasEdge ops i j = true → mk j = true → R j (p j) w := fun h0 p hp j hj hm => by
        have hjL := hr j hj (h.notboth j hm).2.2
        rw [hp j hjL hm]
        exact (m.first h0).2.1 j hjL hm
      cases hmk : mk i with
      | true =>
        obtain ⟨hicl, hifree, -⟩ := h.notboth i hmk
        have h0 := hphase hifree
        obtain ⟨hT, hR, hD, k, hk, hW, hc⟩ := m.first h0
        refine opWp_make ((hag.2.1 _ _).2 (h.make act i _ hiN hmk ho w hT (hfacts h0 act hcons))) fun u w' ⟨t1, t2, t3, t4⟩ => ?_
        refine next u w' (fun p _ hpi => by rw [h.vmake p i hmk, hpi hmk]) (fun _ => ⟨h.trans _ _ _ hT t1, fun j hj hm => h.stable _ _ _ _ (hR j hj hm) t1, fun _ => ⟨t2, fun j hj hm => differ_of t4 (h.old _ _ _ (hR j hj hm))⟩, k, hk, t3 k hW, fun j c hjc => ?_⟩) (fun hpos => by omega)
        rw [← hc j c hjc]
        constructor
        · rintro (h1 | h1)
          · exact h1
          · exact absurd (List.mem_of_getElem? hjc) (by rw [h1]; exact hicl)
        · exact Or.inl
      | false =>
        by_cases hicl : i ∈ cl
        · have hifree : i ∉ free := fun hf => h.nofree i hf hicl
          have h0 := hphase hifree
          obtain ⟨hT, hR, hD, k, hk, hW, hc⟩ := m.first h0
          have hat : ∀ j, cl[j]? = some i → j = k := by
            intro j hj
            have h1 : ¬ j < k := fun hlt => hiL ((hc j i hj).2 hlt)
            rcases Nat.eq_zero_or_pos j with hj0 | hjpos
            · omega
            · obtain ⟨j', rfl⟩ : ∃ j', j = j' + 1 := ⟨j - 1, by omega⟩
              have hlen : j' < cl.length := by have := (List.getElem?_eq_some_iff.1 hj).1; omega
              have hc' : cl[j']? = some cl[j'] := List.getElem?_eq_getElem hlen
              have he := h.form.chain j' _ _ hc' hj
              have := (hc j' _ hc').1 (hr _ he (h.form.call j' _ hc'))
              omega
          obtain ⟨j0, hj0⟩ := List.mem_iff_getElem?.1 hicl
          obtain rfl := hat j0 hj0
          have hlen := (List.getElem?_eq_some_iff.1 hj0).1
          refine opWp_callX (by rw [m.frame, putAll_defers]) ((hag.2.2 _ _ _ _).2 (h.calls act j0 i _ hj0 ho w hT hW (hfacts h0 act hcons))) fun w' ⟨t1, t2⟩ => ?_
          refine next _ w' (fun p _ _ => h.vcall p act i hicl) (fun _ => ⟨h.trans _ _ _ hT t1, fun j hj hm => h.stable _ _ _ _ (hR j hj hm) t1, (fun hm => by rw [hmk] at hm; cases hm), j0 + 1, by omega, t2, fun j c hjc => ?_⟩) (fun hpos => by omega)
          constructor
          · rintro (h1 | h1)
            · have := (hc j c hjc).1 h1; omega
            · rw [h1] at hjc; have := hat j hjc; omega
          · intro hlt
            rcases Nat.lt_or_ge j j0 with h1 | h1
            · exact .inl ((hc j c hjc).2 h1)
            · have : j = j0 := by omega
              subst this
              rw [hjc] at hj0
              exact .inr (by simpa using hj0)
        · have hpure : ∀ p : Nat → Value, (∀ j ∈ L, mk j = true → p j = act j) → opPure P ops[i] (putAll ops (val p) (List.range N) a0) w (val p i) := fun p hp => by
            by_cases hifree : i ∈ free
            · exact h.frees p i _ hiN hifree ho w
            · have h0 := hphase hifree
              exact h.pure p i _ hiN hmk hicl ho w (m.first h0).1 (hfacts h0 p hp)
          refine opWp_pure ((hag.1 _ _).2 (hpure act hcons)) ?_
          refine next _ w (fun p hp _ => ?_) (fun h0 => ?_) (fun _ => ⟨rfl, hmk⟩)
          · have hagp := opAt_congr (P := P) (m.agree ho hr p hp)
            exact opPure_eq ((hagp.1 _ _).2 (hpure p hp)) ((hag.1 _ _).2 (hpure act hcons))
          · obtain ⟨hT, hR, hD, k, hk, hW, hc⟩ := m.first h0
            refine ⟨hT, hR, (fun hm => by rw [hmk] at hm; cases hm), k, hk, hW, fun j c hjc => ?_⟩
            rw [← hc j c hjc]
            constructor
            · rintro (h1 | h1)
              · exact h1
              · exact absurd (List.mem_of_getElem? hjc) (by rw [h1]; exact hicl)
            · exact Or.inl
    · -- one of the last ones
      obtain ⟨hdst, hprev⟩ := h.form.last i hiN hin
      have hiτ : i = N + τ := by
        have h1 : ¬ i < N + τ := fun hlt => by
          have := (m.isl i hin).2 (.inr ⟨hiN, hlt⟩)
          rw [this] at hil
          cases hil
        rcases Nat.lt_or_ge (N + τ) i with h2 | h2
        · rcases hprev (N + τ) h2 with h3 | h3 | h3
          · omega
          rotate_left
          · omega
          · obtain ⟨h4, h5⟩ := hE _ h3
            rcases (m.isl _ h5).1 h4 with h6 | h6
            · have := m.inL _ h6; omega
            · omega
        · omega
      have hLfree : ∀ j, j < N → j ∉ free → j ∈ L := fun j hj hf => by
        rcases Nat.eq_zero_or_pos τ with h0 | hpos
        · rcases hprev j (by omega) with h1 | h1 | h1
          · rcases h1.2 with h2 | h2
            · exact absurd h2 hf
            · omega
          · exact hr j h1 hj
          · exact ancs_in hr m.shut (by omega) N j h1.2
        · exact (m.later hpos).1 j hj hf
      have htail : tailWp P ops (putAll ops (val act) (List.range N) a0) (fun w' => Q .normal (putAll ops (val act) (List.range N) a0) w') (List.range' (N + τ) (ops.size - (N + τ))) w := by
        rcases Nat.eq_zero_or_pos τ with h0 | hpos
        · obtain ⟨hT, hR, hD, k, hk, hW, hc⟩ := m.first h0
          have hk' : k = cl.length := by
            rcases Nat.lt_or_ge k cl.length with hlt | hge
            · have hck : cl[k]? = some cl[k] := List.getElem?_eq_getElem hlt
              have hN' := h.form.call k _ hck
              have hnf : cl[k] ∉ free := fun hf => h.nofree _ hf (List.getElem_mem hlt)
              have := (hc k _ hck).1 (hLfree _ hN' hnf)
              omega
            · omega
          subst hk'
          have := h.done act w hT hW (fun j hj => hR j (hLfree j (h.notboth j hj).2.2 (h.notboth j hj).2.1) hj) (fun j j' hj hj' hne => hD j (hLfree j (h.notboth j hj).2.2 (h.notboth j hj).2.1) j' (hLfree j' (h.notboth j' hj').2.2 (h.notboth j' hj').2.1) hj hj' hne)
          rw [h0]
          exact this
        · exact (m.later hpos).2
      rw [show ops.size - (N + τ) = (ops.size - (N + (τ + 1))) + 1 by omega, List.range'_succ] at htail
      unfold tailWp at htail
      rw [← hiτ, ho] at htail
      simp only [] at htail
      have hcong := m.agree ho hr act (fun _ _ _ => rfl)
      have hst : opStore P ops[i] a w (tailWp P ops (putAll ops (val act) (List.range N) a0) (fun w' => Q .normal (putAll ops (val act) (List.range N) a0) w') (List.range' (i + 1) (ops.size - (N + (τ + 1))))) := by
        unfold opStore at htail ⊢
        rw [hcong]
        exact htail
      refine opWp_store (by rw [← hd]; exact hdst) hst fun w' hw' => ?_
      refine mid_any h fuel _ L (τ + 1) act a w' ⟨?_, ?_, m.inL, m.shut, m.frame, m.vals, by omega, fun h0 => by omega, fun _ => ⟨hLfree, ?_⟩⟩ hu'
      · rw [Array.size_setIfInBounds, m.size]
      · intro j hj
        rw [hset j]
        by_cases hji : j = i
        · simp [hji]; omega
        · rw [if_neg hji, m.isl j hj]
          constructor
          · rintro (h1 | h1)
            · exact .inl h1
            · exact .inr ⟨h1.1, by omega⟩
          · rintro (h1 | h1)
            · exact .inl h1
            · exact .inr ⟨h1.1, by omega⟩
      · rw [show N + (τ + 1) = i + 1 by omega]
        rw [show ops.size - (N + (τ + 1)) = ops.size - (i + 1) by omega] at hw'
        exact hw'
/-- A region of this form, from its conditions. -/
theorem wp_region_tame {id : Nat} {w : World} (hm : P.follows .mixedOrders = true) (h : Tame P ops N cl free mk T W R val a0 w.drew Q) : (Code.region id ops true).wp P Q a0 w := by
  refine wp_region_any hm ?_
  have hz : ∀ i, i < ops.size → (Array.replicate ops.size false).getD i true = false := fun i hi => by simp [Array.getD_eq_getD_getElem?, hi]
  refine mid_any h ops.size _ [] 0 (fun _ => undef) a0 _ ⟨by simp, ?_, by simp, by simp, rfl, by simp, by have := h.form.le; omega, fun _ => ⟨h.refl _, by simp, by simp, 0, by omega, h.start, by simp⟩, fun h0 => by omega⟩ ?_
  · intro i hi
    rw [hz i hi]
    simp
  · unfold unlisted
    exact Nat.le_trans (List.length_filter_le _ _) (by simp)
end
end Go.Proofs.Ytffbipcdlnfihaa
namespace Go.Proofs.Ytffbipcdlnfihaa
open Go.RowKit

section
variable {P : Program} {ops : Array Oper}
def tameB (ops : Array Oper) (N : Nat) (cl free : List Nat) : Bool :=
  decide (N ≤ ops.size) &&
  (ops.toList.all fun o => o.guard.isNone && (match o.op with | .select _ _ => false | _ => true)) &&
  ((List.range ops.size).all fun i => (looks ops i).all fun t => (List.range ops.size).all fun j => dstOf ops j != some t || (hasEdge ops i j && decide (j < N))) &&
  ((List.range ops.size).all fun i => (List.range ops.size).all fun j => decide (i = j) || (dstOf ops i).isNone || dstOf ops i != dstOf ops j) &&
  (cl.all fun c => decide (c < N)) &&
  ((List.range cl.length).all fun k => match cl[k]?, cl[k + 1]? with | some c, some d => hasEdge ops d c | _, _ => true) &&
  ((List.range ops.size).all fun i => match ops[i]? with | some o => o.after.toList.all fun e => !Region.binds .any e || decide (e.on < i) | none => true) &&
  ((List.range ops.size).all fun i => decide (i < N) || (((dstOf ops i).isNone) && (List.range i).all fun j => (decide (j < N) && (free.contains j || decide (N < i))) || (hasEdge ops i j || (decide (j < N) && (ancs ops N i N).contains j))))
theorem dstOf_lt {i : Nat} {t : Tmp} (h : dstOf ops i = some t) : i < ops.size := by
  unfold dstOf at h
  rcases Nat.lt_or_ge i ops.size with h1 | h1
  · exact h1
  · rw [Array.getElem?_eq_none h1] at h; cases h
theorem looks_lt {i : Nat} {t : Tmp} (h : t ∈ looks ops i) : i < ops.size := by
  unfold looks at h
  rcases Nat.lt_or_ge i ops.size with h1 | h1
  · exact h1
  · rw [Array.getElem?_eq_none h1] at h; simp at h
theorem form_of {N : Nat} {cl free : List Nat} (h : tameB ops N cl free = true) : TameForm ops N cl free := by
  unfold tameB at h
  simp only [Bool.and_eq_true] at h
  obtain ⟨⟨⟨⟨⟨⟨⟨h1, h2⟩, h3⟩, h4⟩, h5⟩, h6⟩, h7⟩, h8⟩ := h
  refine ⟨by simpa using h1, fun i o ho => ?_, fun i t j ht hj => ?_, fun i j t hi hj => ?_, fun k c hc => ?_, fun k c d hc hd => ?_, fun i o e ho he hb => ?_, fun i hN hi => ?_⟩
  · have hm : o ∈ ops.toList := by
      have := Array.mem_of_getElem? ho
      simpa using this
    have := List.all_eq_true.1 h2 o hm
    simp only [Bool.and_eq_true] at this
    refine ⟨by simpa using this.1, fun cs b e => ?_⟩
    rw [e] at this
    simp at this
  · have := List.all_eq_true.1 (List.all_eq_true.1 (List.all_eq_true.1 h3 i (List.mem_range.2 (looks_lt ht))) t ht) j (List.mem_range.2 (dstOf_lt hj))
    rw [hj] at this
    simpa using this
  · have := List.all_eq_true.1 (List.all_eq_true.1 h4 i (List.mem_range.2 (dstOf_lt hi))) j (List.mem_range.2 (dstOf_lt hj))
    rw [hi, hj] at this
    simpa using this
  · have := List.all_eq_true.1 h5 c (List.mem_of_getElem? hc)
    simpa using this
  · have := List.all_eq_true.1 h6 k (List.mem_range.2 (List.getElem?_eq_some_iff.1 hc).1)
    rw [hc, hd] at this
    exact this
  · have := List.all_eq_true.1 h7 i (List.mem_range.2 (Array.getElem?_eq_some_iff.1 ho).1)
    rw [ho] at this
    have := List.all_eq_true.1 this e (by simpa using he)
    rw [hb] at this
    simpa using this
  · have := List.all_eq_true.1 h8 i (List.mem_range.2 hi)
    rw [Bool.or_eq_true] at this
    rcases this with h | h
    · simp at h; omega
    · simp only [Bool.and_eq_true] at h
      refine ⟨by simpa using h.1, fun j hj => ?_⟩
      have := List.all_eq_true.1 h.2 j (List.mem_range.2 hj)
      simpa using this

/-- The facts on what an operation reads. -/
def Facts (ops : Array Oper) (mks : List Nat) (R : Nat → Value → World → Prop) (p : Nat → Value) (i : Nat) (w : World) : Prop := ∀ j, hasEdge ops i j = true → j ∈ mks → R j (p j) w
/-- One operation. -/
def LexOp (P : Program) (ops : Array Oper) (mks cl free : List Nat) (T : World → World → Prop) (W : Nat → World → Prop) (R : Nat → Value → World → Prop) (X : Ending → World → Prop) (w0 : World) (p : Nat → Value) (i : Nat) (o : Oper) (a : Act) (v : Value) : Prop :=
  if i ∈ mks then v = p i ∧ ∀ w, T w0 w → Facts ops mks R p i w → opMake P o a w fun u w' => T w w' ∧ R i u w' ∧ (∀ k, W k w → W k w') ∧ Fresh u w
  else if i ∈ cl then ∀ k, cl[k]? = some i → ∀ w, T w0 w → W k w → Facts ops mks R p i w → opCallX P o a w v X fun w' => T w w' ∧ W (k + 1) w'
  else if i ∈ free then ∀ w, opPure P o a w v
  else ∀ w, T w0 w → Facts ops mks R p i w → opPure P o a w v
/-- The walk; E: what is asked at its end. -/
def Lex (P : Program) (ops : Array Oper) (mks cl free : List Nat) (T : World → World → Prop) (W : Nat → World → Prop) (R : Nat → Value → World → Prop) (X : Ending → World → Prop) (w0 : World) (p : Nat → Value) (E : Act → Prop) : List Oper → Nat → Act → List Value → Prop
  | [], _, a, vs => vs = [] ∧ E a
  | o :: r, i, a, v :: vs => LexOp P ops mks cl free T W R X w0 p i o a v ∧ Lex P ops mks cl free T W R X w0 p E r (i + 1) (a.put o.dst v) vs
  | _ :: _, _, _, [] => False
variable {N : Nat} {mks cl free : List Nat} {T : World → World → Prop} {W : Nat → World → Prop} {R : Nat → Value → World → Prop} {X : Ending → World → Prop} {w0 : World} {p : Nat → Value} {E : Act → Prop}
theorem lex_all : ∀ (l : List Oper) (i : Nat) (a : Act) (vs : List Value) (a0 : Act) (val : Nat → Value), (∀ j, l[j]? = ops[i + j]? ∨ l.length ≤ j) → i + l.length ≤ ops.size → a = putAll ops val (List.range i) a0 → (∀ j, j < l.length → val (i + j) = vs.getD j undef) →
    Lex P ops mks cl free T W R X w0 p E l i a vs → (∀ j o, i ≤ j → j < i + l.length → ops[j]? = some o → LexOp P ops mks cl free T W R X w0 p j o (putAll ops val (List.range j) a0) (val j)) ∧ E (putAll ops val (List.range (i + l.length)) a0)
  | [], i, a, vs, a0, val, _, _, ha, _, h => by
    refine ⟨fun j o h1 h2 => by simp at h2; omega, ?_⟩
    rw [ha] at h
    exact h.2
  | o :: r, i, a, [], a0, val, _, _, _, _, h => by simp [Lex] at h
  | o :: r, i, a, v :: vs, a0, val, hl, hsz, ha, hv, h => by
    obtain ⟨h1, h2⟩ := h
    have ho : ops[i]? = some o := by
      rcases hl 0 with h | h
      · simpa using h.symm
      · simp at h
    have hvi : val i = v := by have := hv 0 (by simp); simpa using this
    have hd : dstOf ops i = o.dst := by unfold dstOf; rw [ho]; rfl
    have ha' : a.put o.dst v = putAll ops val (List.range (i + 1)) a0 := by
      rw [List.range_succ, putAll_snoc, ha, hd, hvi]
    have ih := lex_all r (i + 1) _ vs a0 val (fun j => by
      rcases hl (j + 1) with h | h
      · left; rw [show i + 1 + j = i + (j + 1) by omega, ← h]; simp
      · right; simp at h; omega) (by simp at hsz; omega) ha' (fun j hj => by
        have := hv (j + 1) (by simp; omega)
        rw [show i + 1 + j = i + (j + 1) by omega, this]; simp) h2
    refine ⟨fun j o' hj1 hj2 hj3 => ?_, ?_⟩
    · by_cases hji : j = i
      · subst hji
        rw [ho] at hj3
        injection hj3 with hj3
        subst hj3
        rw [← ha, hvi]
        exact h1
      · exact ih.1 j o' (by omega) (by simp at hj2; omega) hj3
    · have := ih.2
      rw [show i + (o :: r).length = i + 1 + r.length by simp; omega]
      exact this
def apartB (N : Nat) (mks cl free : List Nat) : Bool := (mks.all fun i => !cl.contains i && !free.contains i && decide (i < N)) && free.all fun i => !cl.contains i
def narrow (mks : List Nat) (p : Nat → Value) (j : Nat) : Value := if j ∈ mks then p j else undef
theorem narrow_in {mks : List Nat} {p : Nat → Value} {j : Nat} (h : j ∈ mks) : narrow mks p j = p j := if_pos h
theorem wp_region_lex {id : Nat} {l : List Oper} {Q : Exit → Act → World → Prop} {a0 : Act} {w : World} (N : Nat) (mks cl free : List Nat) (T : World → World → Prop) (W : Nat → World → Prop) (R : Nat → Value → World → Prop) (X : Ending → World → Prop) (hX : ∀ e w, X e w → PanQ Q a0 e w) (vs : (Nat → Value) → List Value)
    (hm : P.follows .mixedOrders = true) (hB : tameB l.toArray N cl free = true) (hA : apartB N mks cl free = true)
    (hr : ∀ w, T w w) (ht : ∀ w w' w'', T w w' → T w' w'' → T w w'') (hs : ∀ i u w w', R i u w → T w w' → R i u w') (hold : ∀ i u w, R i u w → Old u w) (h0 : W 0 w.drew)
    (hvc : ∀ p p' : Nat → Value, (cl.map fun c => (vs p).getD c undef) = cl.map fun c => (vs p').getD c undef)
    (hlex : ∀ p, Lex P l.toArray mks cl free T W R X w.drew p (fun a => ∀ w', T w.drew w' → W cl.length w' → (∀ j, j ∈ mks → R j (p j) w') → (∀ j j', j ∈ mks → j' ∈ mks → j ≠ j' → Differ (p j) (p j')) → tailWp P l.toArray a (fun w'' => Q .normal a w'') (List.range' N (l.length - N)) w') (l.take N) 0 a0 (vs p)) :
    (Code.region id l.toArray true).wp P Q a0 w := by
  have hf := form_of hB
  have hN : N ≤ l.length := hf.le
  unfold apartB at hA
  rw [Bool.and_eq_true, List.all_eq_true, List.all_eq_true] at hA
  have hA1 : ∀ i, i ∈ mks → i ∉ cl ∧ i ∉ free ∧ i < N := fun i hi => by
    have := hA.1 i hi
    simp at this
    exact ⟨this.1.1, this.1.2, this.2⟩
  have hA2 : ∀ i, i ∈ free → i ∉ cl := fun i hi => by have := hA.2 i hi; simpa using this
  have hlen : (l.take N).length = N := by simp; omega
  have key : ∀ p, _ := fun p => lex_all (l.take N) 0 a0 (vs p) a0 (fun i => (vs p).getD i undef) (fun j => by
      by_cases hj : j < N
      · left; simp [hj]
      · right; omega) (by rw [hlen]; simpa using hN) rfl (fun j _ => by simp) (hlex p)
  refine wp_region_tame (N := N) (cl := cl) (free := free) (mk := fun i => decide (i ∈ mks)) (T := T) (W := W) (R := R) (val := fun p i => (vs (narrow mks p)).getD i undef) hm ?_
  have hlow : ∀ (p : Nat → Value) (i : Nat) (o : Oper), l.toArray[i]? = some o → i < N → execOp (putAll l.toArray (fun i => (vs p).getD i undef) (List.range i) a0).eval o = execOp (putAll l.toArray (fun i => (vs p).getD i undef) (List.range N) a0).eval o := fun p i o ho hi =>
    frames_agree hf ho (fun j hj _ => by
      obtain ⟨o', e, ho', he, rfl, hb⟩ := edge_of hj
      exact List.mem_range.2 (hf.lex i o' e ho' he hb)) (fun j hj => List.mem_range.2 hj) (fun _ _ => rfl)
  have hn : ∀ (p : Nat → Value) (i : Nat) (w' : World), (∀ j, hasEdge l.toArray i j = true → decide (j ∈ mks) = true → R j (p j) w') → Facts l.toArray mks R (narrow mks p) i w' := fun p i w' h j hj hm => by
    rw [narrow_in hm]
    exact h j hj (decide_eq_true hm)
  have op : ∀ (p : Nat → Value) (i : Nat) (o : Oper), l.toArray[i]? = some o → i < N → LexOp P l.toArray mks cl free T W R X w.drew (narrow mks p) i o (putAll l.toArray (fun i => (vs (narrow mks p)).getD i undef) (List.range i) a0) ((vs (narrow mks p)).getD i undef) := fun p i o ho hi =>
    (key (narrow mks p)).1 i o (by omega) (by rw [hlen]; omega) ho
  refine ⟨hf, hr, ht, hs, hold, h0, fun p i hi => ?_, fun p p' hp => ?_, fun p p' c hc => ?_, fun p i o hi hmk hcl ho w' hT hF => ?_, fun p i o hi hfr ho w' => ?_, fun p i o hi hmk ho w' hT hF => ?_, fun p k c o hc ho w' hT hW hF => ?_, fun i hi => hA1 i (of_decide_eq_true hi), hA2, fun p w' hT hW hR hD => ?_⟩
  · have hi := of_decide_eq_true hi
    have hiN := (hA1 i hi).2.2
    have := op p i l[i] (by simp [List.getElem?_eq_getElem (show i < l.length by omega)]) hiN
    unfold LexOp at this
    rw [if_pos hi] at this
    exact this.1.trans (narrow_in hi)
  · have : narrow mks p = narrow mks p' := by
      funext j
      unfold narrow
      split
      · rename_i h; exact hp j (decide_eq_true h)
      · rfl
    simp only [this]
  · have := List.map_inj_left.1 (hvc (narrow mks p) (narrow mks p')) c hc
    exact this
  · have h1 := op p i o ho hi
    have hmk : i ∉ mks := of_decide_eq_false hmk
    unfold LexOp at h1
    rw [if_neg hmk, if_neg hcl] at h1
    refine ((opAt_congr (hlow (narrow mks p) i o ho hi)).1 _ _).1 ?_
    split at h1
    · exact h1 w'
    · exact h1 w' hT (hn p i w' hF)
  · have h1 := op p i o ho hi
    have hmk : i ∉ mks := fun h => (hA1 i h).2.1 hfr
    unfold LexOp at h1
    rw [if_neg hmk, if_neg (hA2 i hfr), if_pos hfr] at h1
    exact ((opAt_congr (hlow (narrow mks p) i o ho hi)).1 _ _).1 (h1 w')
  · have h1 := op p i o ho hi
    unfold LexOp at h1
    rw [if_pos (of_decide_eq_true hmk)] at h1
    exact ((opAt_congr (hlow (narrow mks p) i o ho hi)).2.1 _ _).1 (h1.2 w' hT (hn p i w' hF))
  · have hcl := List.mem_of_getElem? hc
    have hi := hf.call k c hc
    have h1 := op p c o ho hi
    have hmk : c ∉ mks := fun h => (hA1 c h).1 hcl
    unfold LexOp at h1
    rw [if_neg hmk, if_pos hcl] at h1
    exact opCallX_mono (((opAt_congr (hlow (narrow mks p) c o ho hi)).2.2 _ _ _ _).1 (h1 k hc w' hT hW (hn p c w' hF))) hX (fun _ h => h)
  · have := (key (narrow mks p)).2
    rw [hlen, Nat.zero_add] at this
    have h2 := this w' hT hW (fun j hj => by rw [narrow_in hj]; exact hR j (decide_eq_true hj)) (fun j j' hj hj' hne => by rw [narrow_in hj, narrow_in hj']; exact hD j j' (decide_eq_true hj) (decide_eq_true hj') hne)
    have e : l.toArray.size = l.length := by simp
    rw [e]
    exact h2
/-- The same, the calls' values given. -/
theorem wp_region_lexed {id : Nat} {l : List Oper} {Q : Exit → Act → World → Prop} {a0 : Act} {w : World} (N : Nat) (mks cl free : List Nat) (T : World → World → Prop) (W : Nat → World → Prop) (R : Nat → Value → World → Prop) (X : Ending → World → Prop) (hX : ∀ e w, X e w → PanQ Q a0 e w) (cv : List Value)
    (hm : P.follows .mixedOrders = true) (hB : tameB l.toArray N cl free = true) (hA : apartB N mks cl free = true)
    (hr : ∀ w, T w w) (ht : ∀ w w' w'', T w w' → T w' w'' → T w w'') (hs : ∀ i u w w', R i u w → T w w' → R i u w') (hold : ∀ i u w, R i u w → Old u w) (h0 : W 0 w.drew)
    (hlex : ∀ p, ∃ vs, Lex P l.toArray mks cl free T W R X w.drew p (fun a => ∀ w', T w.drew w' → W cl.length w' → (∀ j, j ∈ mks → R j (p j) w') → (∀ j j', j ∈ mks → j' ∈ mks → j ≠ j' → Differ (p j) (p j')) → tailWp P l.toArray a (fun w'' => Q .normal a w'') (List.range' N (l.length - N)) w') (l.take N) 0 a0 vs ∧
      (cl.map fun c => vs.getD c undef) = cv) :
    (Code.region id l.toArray true).wp P Q a0 w :=
  wp_region_lex N mks cl free T W R X hX (fun p => Classical.choose (hlex p)) hm hB hA hr ht hs hold h0
    (fun p p' => ((Classical.choose_spec (hlex p)).2).trans ((Classical.choose_spec (hlex p')).2).symm) (fun p => (Classical.choose_spec (hlex p)).1)
variable {o : Oper} {r : List Oper} {i : Nat} {a : Act} {v : Value} {vs : List Value}
theorem lex_end (h : E a) : Lex P ops mks cl free T W R X w0 p E [] i a [] := ⟨rfl, h⟩
theorem lex_pure (h1 : i ∉ mks) (h2 : i ∉ cl) (h3 : i ∉ free) (h : ∀ w, T w0 w → Facts ops mks R p i w → opPure P o a w v) (k : Lex P ops mks cl free T W R X w0 p E r (i + 1) (a.put o.dst v) vs) :
    Lex P ops mks cl free T W R X w0 p E (o :: r) i a (v :: vs) := ⟨by unfold LexOp; rw [if_neg h1, if_neg h2, if_neg h3]; exact h, k⟩
theorem lex_free (h1 : i ∉ mks) (h2 : i ∉ cl) (h3 : i ∈ free) (h : ∀ w, opPure P o a w v) (k : Lex P ops mks cl free T W R X w0 p E r (i + 1) (a.put o.dst v) vs) :
    Lex P ops mks cl free T W R X w0 p E (o :: r) i a (v :: vs) := ⟨by unfold LexOp; rw [if_neg h1, if_neg h2, if_pos h3]; exact h, k⟩
theorem lex_make (h1 : i ∈ mks) (h : ∀ w, T w0 w → Facts ops mks R p i w → opMake P o a w fun u w' => T w w' ∧ R i u w' ∧ (∀ k, W k w → W k w') ∧ Fresh u w) (k : Lex P ops mks cl free T W R X w0 p E r (i + 1) (a.put o.dst (p i)) vs) :
    Lex P ops mks cl free T W R X w0 p E (o :: r) i a (p i :: vs) := ⟨by unfold LexOp; rw [if_pos h1]; exact ⟨rfl, h⟩, k⟩
theorem lex_call (n : Nat) (h1 : i ∉ mks) (h2 : cl[n]? = some i) (h3 : cl.Nodup) (h : ∀ w, T w0 w → W n w → Facts ops mks R p i w → opCallX P o a w v X fun w' => T w w' ∧ W (n + 1) w') (k : Lex P ops mks cl free T W R X w0 p E r (i + 1) (a.put o.dst v) vs) :
    Lex P ops mks cl free T W R X w0 p E (o :: r) i a (v :: vs) := by
  refine ⟨?_, k⟩
  unfold LexOp
  rw [if_neg h1, if_pos (List.mem_of_getElem? h2)]
  intro k hk
  have hl := (List.getElem?_eq_some_iff.1 h2).1
  obtain rfl : n = k := (List.getElem?_inj hl h3).1 (h2.trans hk.symm)
  exact h
end
/-- Facts on what has been made: a slice over a new block; a box. -/
structure Good (F : Value → World → Prop) : Prop where
  stable : ∀ u w w', F u w → Grew w w' → F u w'
  old : ∀ u w, F u w → Old u w
def rOf (l : List (Nat × (Value → World → Prop))) (i : Nat) : Value → World → Prop := (l.lookup i).getD fun u _ => blkOf u = none
theorem good_none : Good fun u _ => blkOf u = none := ⟨fun _ _ _ h _ => h, fun u w h b hb => by rw [h] at hb; cases hb⟩
theorem good_of (l : List (Nat × (Value → World → Prop))) (h : ∀ x ∈ l, Good x.2) (i : Nat) : Good (rOf l i) := by
  unfold rOf
  induction l with
  | nil => exact good_none
  | cons x l ih =>
    rw [List.lookup_cons]
    cases hx : i == x.1 with
    | true => exact h x (by simp)
    | false => exact ih (fun y hy => h y (by simp [hy]))
theorem rOf_stable {l : List (Nat × (Value → World → Prop))} (h : ∀ x ∈ l, Good x.2) : ∀ i u w w', rOf l i u w → Grew w w' → rOf l i u w' := fun i => (good_of l h i).stable
theorem rOf_old {l : List (Nat × (Value → World → Prop))} (h : ∀ x ∈ l, Good x.2) : ∀ i u w, rOf l i u w → Old u w := fun i => (good_of l h i).old
def SliceR (n : Nat) (cs : List Value) (u : Value) (w : World) : Prop := ∃ q, u = .slice (some ⟨q, 0, none⟩) n n ∧ RowAt w q cs ∧ BlockIn w q
theorem good_slice (n : Nat) (cs : List Value) : Good (SliceR n cs) := by
  refine ⟨?_, ?_⟩
  · rintro u w w' ⟨q, rfl, h1, h2⟩ g
    obtain ⟨z, rfl⟩ := later_of g
    exact ⟨q, rfl, inferInstance, inferInstance⟩
  · rintro u w ⟨q, rfl, h1, h2⟩ b hb
    cases hb
    exact h2.lt
def BoxR (w0 : World) (cs : List Value) (u : Value) (w : World) : Prop := ∃ q, u = .pointer (some ⟨q, 0, none⟩) ∧ BoxAt w q cs ∧ BlockIn w q ∧ NewFor w0 q
theorem BoxAt.grew {w w' : World} {q : Nat} {cs : List Value} (h : BoxAt w q cs) (hq : q < w.heap.size) (g : Grew w w') : BoxAt w' q cs := fun i v hv => by
  obtain ⟨h1, h2⟩ := h i v hv
  exact ⟨g.cell h1, by rw [Below.frozen g hq, h2]⟩
theorem good_box (w0 : World) (cs : List Value) : Good (BoxR w0 cs) := by
  refine ⟨?_, ?_⟩
  · rintro u w w' ⟨q, rfl, h1, h2, h4⟩ g
    have h3 := h1.grew h2.lt g
    obtain ⟨z, rfl⟩ := later_of g
    exact ⟨q, rfl, h3, inferInstance, h4⟩
  · rintro u w ⟨q, rfl, h1, h2, h4⟩ b hb
    cases hb
    exact h2.lt
theorem boxAt_new (w : World) (cs : List Value) (t : TypeId) : BoxAt (w.alloc (.cells cs.toArray t)) w.heap.size cs := fun i v hv => by
  have hi := (List.getElem?_eq_some_iff.1 hv).1
  refine ⟨by simpa using hv, ?_⟩
  go_simp
/-- The last operations (closed to the walk). -/
structure Tail (P : Program) (ops : Array Oper) (a : Act) (Q : World → Prop) (r : List Nat) (w : World) : Prop where
  out : tailWp P ops a Q r w
/-- What a making operation makes. -/
def Made (F : Value → World → Prop) (w : World) (u : Value) (w' : World) : Prop := Grew w w' ∧ F u w' ∧ Fresh u w
theorem made_slice (w : World) (cs : List Value) (t : TypeId) (n : Nat) : Made (SliceR n cs) w (.slice (some ⟨w.heap.size, 0, none⟩) n n) (w.alloc (.cells cs.toArray t)) :=
  ⟨(Grew.refl _).alloc _, ⟨_, rfl, inferInstance, inferInstance⟩, fun b hb => by cases hb; exact Nat.le_refl _⟩
theorem made_box (w0 w : World) (cs : List Value) (t : TypeId) [h : NewFor w0 w.heap.size] : Made (BoxR w0 cs) w (.pointer (some ⟨w.heap.size, 0, none⟩)) (w.alloc (.cells cs.toArray t)) :=
  ⟨(Grew.refl _).alloc _, ⟨_, rfl, boxAt_new _ _ _, inferInstance, h⟩, fun b hb => by cases hb; exact Nat.le_refl _⟩
section
variable {P : Program} {ops : Array Oper} {mks cl free : List Nat} {l : List (Nat × (Value → World → Prop))} {w0 : World} {p : Nat → Value} {E : Act → Prop} {o : Oper} {r : List Oper} {i : Nat} {a : Act} {v : Value} {vs : List Value}
abbrev NoW : Nat → World → Prop := fun _ _ => True
abbrev NoX : Ending → World → Prop := fun _ _ => False
theorem noX {Q : Exit → Act → World → Prop} {a0 : Act} : ∀ e w, NoX e w → PanQ Q a0 e w := fun _ _ h => h.elim
/-- A region that only makes memory (T: Grew): its walk. -/
def LexG (P : Program) (ops : Array Oper) (mks cl free : List Nat) (l : List (Nat × (Value → World → Prop))) (w0 : World) (p : Nat → Value) (E : Act → Prop) : List Oper → Nat → Act → List Value → Prop := Lex P ops mks cl free Grew NoW (rOf l) NoX w0 p E
theorem lexg_end (h : E a) : LexG P ops mks cl free l w0 p E [] i a [] := lex_end h
theorem lexg_pure (h1 : (mks.contains i || cl.contains i || free.contains i) = false) (h : ∀ u : Later w0, opPure P o a u.world v) (k : LexG P ops mks cl free l w0 p E r (i + 1) (a.put o.dst v) vs) : LexG P ops mks cl free l w0 p E (o :: r) i a (v :: vs) := by
  simp only [Bool.or_eq_false_iff] at h1
  exact lex_pure (by simpa using h1.1.1) (by simpa using h1.1.2) (by simpa using h1.2) (fun w hT _ => h ⟨w, hT⟩) k
theorem lexg_read (h1 : (mks.contains i || cl.contains i || free.contains i) = false) (h : ∀ u : Later w0, Facts ops mks (rOf l) p i u.world → opPure P o a u.world v) (k : LexG P ops mks cl free l w0 p E r (i + 1) (a.put o.dst v) vs) : LexG P ops mks cl free l w0 p E (o :: r) i a (v :: vs) := by
  simp only [Bool.or_eq_false_iff] at h1
  exact lex_pure (by simpa using h1.1.1) (by simpa using h1.1.2) (by simpa using h1.2) (fun w hT hF => h ⟨w, hT⟩ hF) k
theorem lexg_free (h1 : (mks.contains i || cl.contains i || !free.contains i) = false) (h : ∀ w, opPure P o a w v) (k : LexG P ops mks cl free l w0 p E r (i + 1) (a.put o.dst v) vs) : LexG P ops mks cl free l w0 p E (o :: r) i a (v :: vs) := by
  simp only [Bool.or_eq_false_iff, Bool.not_eq_false'] at h1
  exact lex_free (by simpa using h1.1.1) (by simpa using h1.1.2) (by simpa using h1.2) h k
theorem lexg_make (h1 : mks.contains i = true) (h : ∀ u : Later w0, Facts ops mks (rOf l) p i u.world → opMake P o a u.world (Made (rOf l i) u.world)) (k : LexG P ops mks cl free l w0 p E r (i + 1) (a.put o.dst (p i)) vs) : LexG P ops mks cl free l w0 p E (o :: r) i a (p i :: vs) := by
  refine lex_make (by simpa using h1) (fun w hT hF => ?_) k
  have := h ⟨w, hT⟩ hF
  unfold opMake at this ⊢
  generalize (execOp a.eval o).run P w = x at *
  cases x with
  | ok n w' =>
    cases n <;> simp only [] at this
    obtain ⟨t1, t2, t3⟩ := this
    exact ⟨t1, t2, fun _ h => h, t3⟩
  | halt x w' => exact this.elim
theorem lexg_call (n : Nat) (h1 : mks.contains i = false) (h2 : cl[n]? = some i) (h3 : cl.Nodup) (h : ∀ u : Later w0, Facts ops mks (rOf l) p i u.world → opCall P o a u.world v (Grew u.world)) (k : LexG P ops mks cl free l w0 p E r (i + 1) (a.put o.dst v) vs) : LexG P ops mks cl free l w0 p E (o :: r) i a (v :: vs) := by
  refine lex_call n (by simpa using h1) h2 h3 (fun w hT _ hF => ?_) k
  exact opCallX_mono (opCallX_of (X := NoX) (h ⟨w, hT⟩ hF)) (fun _ _ h => h) (fun _ h => ⟨h, trivial⟩)
theorem wp_region_grown {id : Nat} {lo : List Oper} {Q : Exit → Act → World → Prop} {a0 : Act} {w : World} (N : Nat) (mks cl free : List Nat) (l : World → List (Nat × (Value → World → Prop))) (cv : List Value) (tl : List Nat) (htl : List.range' N (lo.length - N) = tl)
    (hg : ∀ W0, ∀ x ∈ l W0, Good x.2) (hm : P.follows .mixedOrders = true) (hB : tameB lo.toArray N cl free = true) (hA : apartB N mks cl free = true)
    (hlex : ∀ p, ∃ vs, LexG P lo.toArray mks cl free (l w.drew) w.drew p (fun a => ∀ u : Later w.drew, (∀ j, j ∈ mks → rOf (l w.drew) j (p j) u.world) → (∀ j j', j ∈ mks → j' ∈ mks → j ≠ j' → Differ (p j) (p j')) → Tail P lo.toArray a (fun w'' => Q .normal a w'') tl u.world) (lo.take N) 0 a0 vs ∧
      (cl.map fun c => vs.getD c undef) = cv) :
    (Code.region id lo.toArray true).wp P Q a0 w := by
  subst htl
  refine wp_region_lexed N mks cl free Grew NoW (rOf (l w.drew)) NoX noX cv hm hB hA (fun w => Grew.refl w) (fun _ _ _ h k => h.trans k) (rOf_stable (hg _)) (rOf_old (hg _)) trivial fun p => ?_
  obtain ⟨vs, h1, h2⟩ := hlex p
  refine ⟨vs, ?_, h2⟩
  have mono : ∀ (l' : List Oper) (i : Nat) (a : Act) (vs : List Value) (E E' : Act → Prop), (∀ a, E a → E' a) → Lex P lo.toArray mks cl free Grew NoW (rOf (l w.drew)) NoX w.drew p E l' i a vs → Lex P lo.toArray mks cl free Grew NoW (rOf (l w.drew)) NoX w.drew p E' l' i a vs := by
    intro l'
    induction l' with
    | nil => intro i a vs E E' hE h; exact ⟨h.1, hE _ h.2⟩
    | cons o r ih =>
      intro i a vs E E' hE h
      cases vs with
      | nil => exact h
      | cons v vs => exact ⟨h.1, ih _ _ _ _ _ hE h.2⟩
  exact mono _ _ _ _ _ _ (fun a h w' hT _ hR hD => (h ⟨w', hT⟩ hR hD).out) h1
end
theorem tail_store {P : Program} {ops : Array Oper} {a : Act} {Q : World → Prop} {i : Nat} {r : List Nat} {w : World} {o : Oper} (ho : ops[i]? = some o) (h : opStore P o a w (Tail P ops a Q r)) : Tail P ops a Q (i :: r) w := by
  refine ⟨?_⟩
  unfold tailWp
  rw [ho]
  show opStore P o a w (tailWp P ops a Q r)
  unfold opStore at h ⊢
  generalize (execOp a.eval o).run P w = x at *
  cases x with
  | ok n w' =>
    cases n <;> simp only [] at h
    · exact h.out
    · exact h.out
  | halt x w' => exact h.elim
theorem tail_end {P : Program} {ops : Array Oper} {a : Act} {Q : World → Prop} {w : World} (h : Q w) : Tail P ops a Q [] w := ⟨h⟩
theorem apart_of_differ {q q' : Nat} (h : Differ (.pointer (some ⟨q, 0, none⟩)) (.pointer (some ⟨q', 0, none⟩))) : Apart q q' ∧ Apart q' q := by
  unfold Differ blkOf at h
  simp at h
  exact ⟨⟨h⟩, ⟨fun e => h e.symm⟩⟩
theorem apart_oldL {w : World} {q : Nat} (h : NewFor w q) : ∀ b, [BlockIn w b] → Apart b q := fun b k => ⟨by have := h.le; have := k.lt; omega⟩
theorem apart_oldR {w : World} {q : Nat} (h : NewFor w q) : ∀ b, [BlockIn w b] → Apart q b := fun b k => ⟨by have := h.le; have := k.lt; omega⟩
theorem apart_old {w : World} {q : Nat} (h : NewFor w q) (b : Nat) [k : BlockIn w b] : Apart b q ∧ Apart q b := by
  have := h.le
  have := k.lt
  exact ⟨⟨by omega⟩, ⟨by omega⟩⟩
end Go.Proofs.Ytffbipcdlnfihaa
