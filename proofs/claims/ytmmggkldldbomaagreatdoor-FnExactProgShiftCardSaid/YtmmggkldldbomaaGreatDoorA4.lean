/- Own texts, part A4: PxU PxV PxW PxY PxZ. -/
import Derived.Test.YtmmggkldldbomaaGreatDoorA3
set_option linter.unusedVariables false

/- Calls: the contract, and how a call begins. -/
namespace Go.Px
open Go

abbrev Nope : Loc → Prop := fun _ => False
/-- The blocks of an arena. -/
def MemBlocks (SF : Loc → Prop) (t : Ty) (et : Nat) (bs : List (Option (List t.den))) (b : List Nat) : Prop := b.Nodup ∧ ∀ g, g ∈ b ↔ ∃ k xs C, bs[k]? = some (some xs) ∧ SF (.m et (k + 1) g C)
/-- Arenas as they are handed over; b: their blocks. -/
def MemsOut (w : World) (SA : Nat → Prop) (SF : Loc → Prop) : (ms : List (Nat × Ty)) → PayM ms → List Nat → Prop
  | [], _, b => b = []
  | p :: r, q, b => ∃ b1 b2, b = b1 ++ b2 ∧ MemRep w.heap SA SF p.2 p.1 q.1 ∧ MemBlocks SF p.2 p.1 q.1 b1 ∧ MemsOut w SA SF r q.2 b2
/-- Cells as they are handed over; bs: the rows that go with them. -/
def CellsOut (w : World) (SA : Nat → Prop) (SF : Loc → Prop) : (l : List CSh) → Pay l → List Value → List Nat → Prop
  | [], _, vs, bs => vs = [] ∧ bs = []
  | .val t f :: l, p, vs, bs => ∃ v r, vs = v :: r ∧ Rep w.heap (S2 SA SF f) t [v] p.1 ∧ CellsOut w SA SF l p.2 r bs
  | .row t et f :: l, p, vs, bs => ∃ v r cells b, vs = v :: r ∧ bs = (ownB v).toList ++ b ∧ w.ownsR 0 et t.size v (List.length (α := t.den) p.1) cells ∧
      Chop (Rep w.heap (S2 SA SF f) t) p.1 cells ∧ CellsOut w SA SF l p.2 r b
def VarOut (w : World) (SA : Nat → Prop) (SF : Loc → Prop) (cs : List CSh) (p : Pay cs) (v : Value) (bs : List Nat) : Prop :=
  ∃ g arr et b, v = .pointer (some ⟨g, 0, none⟩) ∧ w.heap[g]? = some (.cells arr et (0, 0)) ∧ CellsOut w SA SF cs p arr.toList b ∧ bs = g :: b
def VarsOut (w : World) (SA : Nat → Prop) (SF : Loc → Prop) : (l : List (List CSh)) → Pay l.flatten → List Value → List Nat → Prop
  | [], _, vs, bs => vs = [] ∧ bs = []
  | cs :: l, p, vs, bs => ∃ v r b1 b2, vs = v :: r ∧ bs = b1 ++ b2 ∧ VarOut w SA SF cs (Pay.split cs l.flatten p).1 v b1 ∧ VarsOut w SA SF l (Pay.split cs l.flatten p).2 r b2
def ArgIn (w : World) (SA : Nat → Prop) (N0 : Loc → Prop) : (p : PSh) → Pay p.flat → Value → List Value → List Nat → List Nat → Prop
  | .cell c, q, v, ps, bs, ms => ps = [] ∧ bs = [] ∧ CellsOut w SA N0 [c] q [v] ms
  | .agg cs, q, v, ps, bs, ms => ps = [] ∧ bs = [] ∧ ∃ us : List Value, v = .agg us.toArray ∧ CellsOut w SA N0 cs q us ms
  | .box cs, q, v, ps, bs, ms => ps = [v] ∧ ms = [] ∧ VarOut w SA N0 cs q v bs
  | .fn f l, q, v, ps, bs, ms => v = .func (.func f) #[] ps.toArray ∧ ms = [] ∧ VarsOut w SA N0 l q ps bs
/-- bs: the lent variables' blocks; ms: those of the rows that are handed over for good. -/
def ArgsIn (w : World) (SA : Nat → Prop) (N0 : Loc → Prop) : (l : List PSh) → Pay (l.flatMap PSh.flat) → List Value → List Value → List Nat → List Nat → Prop
  | [], _, vs, ps, bs, ms => vs = [] ∧ ps = [] ∧ bs = [] ∧ ms = []
  | p :: l, q, vs, ps, bs, ms => ∃ v r p1 p2 b1 b2 m1 m2, vs = v :: r ∧ ps = p1 ++ p2 ∧ bs = b1 ++ b2 ∧ ms = m1 ++ m2 ∧ ArgIn w SA N0 p (Pay.split p.flat (l.flatMap PSh.flat) q).1 v p1 b1 m1 ∧
      ArgsIn w SA N0 l (Pay.split p.flat (l.flatMap PSh.flat) q).2 r p2 b2 m2
/-- Blocks whose content is known throughout; none of them is in B. -/
abbrev Glob := Nat → Option Obj
def GlobOK (G : Glob) (h : Array Obj) (B : Nat → Prop) : Prop := ∀ k o, G k = some o → h[k]? = some o ∧ ¬ B k
structure InOK (G : Glob) (w : World) (SA : Nat → Prop) (N0 : Loc → Prop) (s : Sig) (q : s.In) (vs ps : List Value) (bs ms : List Nat) : Prop where
  args : ∃ m1 m2, ms = m1 ++ m2 ∧ ArgsIn w SA N0 s.ins (PayX.out _ q) vs ps bs m1 ∧ MemsOut w SA N0 s.mems (PayX.ms _ q) m2
  n0 : ∀ k : Nat, ¬ N0 k
  nodup : (bs ++ ms).Nodup
  sa : ∀ k, SA k → k < w.heap.size ∧ k ∉ bs ++ ms
  glob : GlobOK G w.heap fun k => k ∈ bs ++ ms
def OneOut (w : World) (SA : Nat → Prop) (SF : Loc → Prop) (k : Nat) (cs : List CSh) (p : Pay cs) (v : Value) (bs : List Nat) : Prop :=
  (k = 2 ∧ VarOut w SA SF cs p v bs) ∨ (k ≠ 2 ∧ ∃ us, CellsOut w SA SF cs p us bs ∧ v = valOf (Nat.beq k 1) us)
def OutsOut (w : World) (SA : Nat → Prop) (SF : Loc → Prop) : (l : List (Nat × List CSh)) → Pay (flatOuts l) → List Value → List Nat → Prop
  | [], _, vs, bs => vs = [] ∧ bs = []
  | bc :: l, p, vs, bs => ∃ v r b1 b2, vs = v :: r ∧ bs = b1 ++ b2 ∧ OneOut w SA SF bc.1 bc.2 (Pay.split bc.2 (flatOuts l) p).1 v b1 ∧ OutsOut w SA SF l (Pay.split bc.2 (flatOuts l) p).2 r b2
def retOf (us : List Value) : Value := if us.length = 1 then us.headD undef else .tuple us.toArray
structure OutOK (w : World) (SA : Nat → Prop) (N0 : Loc → Prop) (bs ms : List Nat) (ps : List Value) (s : Sig) (q : s.Out) (v : Value) (w' : World) (SF : Loc → Prop) (us : List Value) (b1 b2 : List Nat) : Prop where
  os : w'.os = w.os
  tape : w'.tape = w.tape
  output : w'.output = w.output
  size : w.heap.size ≤ w'.heap.size
  old : ∀ k, k < w.heap.size → k ∉ bs ++ ms → w'.heap[k]? = w.heap[k]?
  sf : ∀ k : Nat, SF k → w.heap.size ≤ k ∧ k < w'.heap.size
  mu : ∀ l, N0 l → SF l
  outs : ∃ b0 b3, b1 = b0 ++ b3 ∧ OutsOut w' SA SF s.outs (Pay.split (flatOuts s.outs) s.boxes.flatten (PayX.out _ q)).1 us b0 ∧ MemsOut w' SA SF s.mems (PayX.ms _ q) b3
  val : v = retOf us
  backs : VarsOut w' SA SF s.boxes (Pay.split (flatOuts s.outs) s.boxes.flatten (PayX.out _ q)).2 ps b2
  new : ∀ k ∈ b1, (w.heap.size ≤ k ∨ k ∈ ms) ∧ k < w'.heap.size
  loose : ∀ k ∈ b1 ++ b2, ¬ SF k
  back : ∀ k ∈ b2, k < w'.heap.size ∧ (k ∈ bs ∨ w.heap.size ≤ k)
  nodup : (b1 ++ b2).Nodup
def CallOK (P : Program) (G : Glob) (f : FuncId) (fd : FD) : Prop := ∀ (w : World) (SA : Nat → Prop) (N0 : Loc → Prop) (vs ps : List Value) (bs ms : List Nat) (p : fd.sig.In) (q : fd.sig.Out), fd.run p = some q → InOK G w SA N0 fd.sig p vs ps bs ms →
  Calls P f vs.toArray w fun e w' => ∃ v SF us b1 b2, e = .returned v ∧ OutOK w SA N0 bs ms ps fd.sig q v w' SF us b1 b2

/-! ### How a call begins -/
structure ObjsIn (w : World) (SA : Nat → Prop) (N0 : Loc → Prop) (β : Nat → Value) (L : List (Nat × Option OV)) (lo hi : Nat) (bs : List Nat) : Prop where
  mem : ∀ o ov, look L o = some ov → lo ≤ o ∧ o < hi ∧ ov.st = 2 ∧ ObjRep SA N0 β w o ov ∧ (∀ g, ownB (β o) = some g → g ∈ bs) ∧ (∀ n ∈ ov.names, lo ≤ n ∧ n < hi) ∧ ov.flat
  inj : ∀ o o' ov ov' g, look L o = some ov → look L o' = some ov' → ownB (β o) = some g → ownB (β o') = some g → o = o'
section
variable {w : World} {SA : Nat → Prop} {N0 : Loc → Prop} {β β1 β2 : Nat → Value} {L L1 L2 : List (Nat × Option OV)} {lo mid hi : Nat} {bs b1 b2 : List Nat}
theorem ObjsIn.nil : ObjsIn w SA N0 β [] lo hi [] := ⟨fun _ _ h => (by cases h), fun _ _ _ _ _ h => (by cases h)⟩
theorem obj_congr {o : Nat} {ov : OV} (hβ0 : β2 o = β1 o) (hβ : ∀ n ∈ ov.names, β2 n = β1 n) (H : ObjRep SA N0 β1 w o ov) : ObjRep SA N0 β2 w o ov :=
  H.mono (fun _ h => h) (fun _ _ => rfl) (fun _ _ => rfl) (by cases ov <;> first | trivial | exact fun _ _ _ h => h) hβ0 hβ
theorem cells_congr {h : Array Obj} {cs : List Cell} {vs : List Value} (hβ : ∀ n ∈ cs.flatMap cellNames, β2 n = β1 n) (H : CellsRep h SA N0 β1 cs vs) : CellsRep h SA N0 β2 cs vs :=
  H.mono (fun _ h => h) (fun _ _ => rfl) hβ
theorem ObjsIn.cons {v : Value} {ov : OV} (H : ObjsIn w SA N0 β L (lo + 1) hi bs) (hlt : lo < hi) (hob : ObjRep SA N0 (upd β lo v) w lo ov) (hst : ov.st = 2) (hn : ∀ n ∈ ov.names, lo + 1 ≤ n ∧ n < hi) (hfl : ov.flat) (hnd : ((ownB v).toList ++ bs).Nodup) :
    ObjsIn w SA N0 (upd β lo v) ((lo, some ov) :: L) lo hi ((ownB v).toList ++ bs) := by
  have hne : ∀ n, lo + 1 ≤ n → upd β lo v n = β n := fun n h => upd_ne v (by omega)
  have hdj : ∀ g, ownB v = some g → g ∉ bs := fun g hg hm => by
    rw [hg] at hnd
    simp only [Option.toList_some, List.singleton_append, List.nodup_cons] at hnd
    exact hnd.1 hm
  refine ⟨fun o ov' h => ?_, fun o o' ov1 ov2 g h h' hg hg' => ?_⟩
  · rw [look_cons] at h
    split at h
    · subst_vars
      cases h
      refine ⟨Nat.le_refl _, hlt, hst, hob, fun g hg => ?_, fun n hn' => ⟨by have := (hn n hn').1; omega, (hn n hn').2⟩, hfl⟩
      rw [upd_same] at hg
      exact List.mem_append_left _ (by simp [hg])
    · obtain ⟨h1, h2, h3, h4, h5, h6, h7⟩ := H.mem _ _ h
      refine ⟨by omega, h2, h3, obj_congr (hne _ h1) (fun n hn' => hne _ (h6 n hn').1) h4, fun g hg => ?_, fun n hn' => ⟨by have := (h6 n hn').1; omega, (h6 n hn').2⟩, h7⟩
      rw [hne _ h1] at hg
      exact List.mem_append_right _ (h5 g hg)
  · rw [look_cons] at h h'
    split at h
    · rename_i e1
      split at h'
      · rename_i e2; rw [← e1, ← e2]
      · obtain ⟨k1, _, _, _, k5, _⟩ := H.mem _ _ h'
        rw [← e1, upd_same] at hg
        rw [hne _ k1] at hg'
        exact absurd (k5 g hg') (hdj g hg)
    · obtain ⟨k1, _, _, _, k5, _⟩ := H.mem _ _ h
      rw [hne _ k1] at hg
      split at h'
      · rename_i e2
        rw [← e2, upd_same] at hg'
        exact absurd (k5 g hg) (hdj g hg')
      · obtain ⟨q1, _⟩ := H.mem _ _ h'
        rw [hne _ q1] at hg'
        exact H.inj _ _ _ _ g h h' hg hg'
def glue (mid : Nat) (β1 β2 : Nat → Value) : Nat → Value := fun n => if n < mid then β1 n else β2 n
theorem ObjsIn.append (H1 : ObjsIn w SA N0 β1 L1 lo mid b1) (H2 : ObjsIn w SA N0 β2 L2 mid hi b2) (hlo : lo ≤ mid) (hhi : mid ≤ hi) (hnd : (b1 ++ b2).Nodup) : ObjsIn w SA N0 (glue mid β1 β2) (L1 ++ L2) lo hi (b1 ++ b2) := by
  have e1 : ∀ n, n < mid → glue mid β1 β2 n = β1 n := fun n h => if_pos h
  have e2 : ∀ n, mid ≤ n → glue mid β1 β2 n = β2 n := fun n h => if_neg (by omega)
  have hdj : ∀ g, g ∈ b1 → g ∈ b2 → False := fun g h1 h2 => (List.nodup_append.1 hnd).2.2 g h1 g h2 rfl
  refine ⟨fun o ov h => ?_, fun o o' ov1 ov2 g h h' hg hg' => ?_⟩
  · rcases look_append _ _ _ _ h with h | h
    · obtain ⟨h1, h2, h3, h4, h5, h6, h7⟩ := H1.mem _ _ h
      exact ⟨h1, by omega, h3, obj_congr (e1 _ h2) (fun n hn => e1 _ (h6 n hn).2) h4, fun g hg => List.mem_append_left _ (h5 g (by rw [← e1 _ h2]; exact hg)), fun n hn => ⟨(h6 n hn).1, by have := (h6 n hn).2; omega⟩, h7⟩
    · obtain ⟨h1, h2, h3, h4, h5, h6, h7⟩ := H2.mem _ _ h
      exact ⟨by omega, h2, h3, obj_congr (e2 _ h1) (fun n hn => e2 _ (h6 n hn).1) h4, fun g hg => List.mem_append_right _ (h5 g (by rw [← e2 _ h1]; exact hg)), fun n hn => ⟨by have := (h6 n hn).1; omega, (h6 n hn).2⟩, h7⟩
  · rcases look_append _ _ _ _ h with h | h <;> rcases look_append _ _ _ _ h' with h' | h'
    · rw [e1 _ (H1.mem _ _ h).2.1] at hg
      rw [e1 _ (H1.mem _ _ h').2.1] at hg'
      exact H1.inj _ _ _ _ g h h' hg hg'
    · rw [e1 _ (H1.mem _ _ h).2.1] at hg
      rw [e2 _ (H2.mem _ _ h').1] at hg'
      exact (hdj g ((H1.mem _ _ h).2.2.2.2.1 g hg) ((H2.mem _ _ h').2.2.2.2.1 g hg')).elim
    · rw [e2 _ (H2.mem _ _ h).1] at hg
      rw [e1 _ (H1.mem _ _ h').2.1] at hg'
      exact (hdj g ((H1.mem _ _ h').2.2.2.2.1 g hg') ((H2.mem _ _ h).2.2.2.2.1 g hg)).elim
    · rw [e2 _ (H2.mem _ _ h).1] at hg
      rw [e2 _ (H2.mem _ _ h').1] at hg'
      exact H2.inj _ _ _ _ g h h' hg hg'
theorem pnm_succ (i j : Nat) : pnm i (j + 1) = pnm i j + 1 := by simp [pnm]; omega
theorem sig_weak {S S' : Nat → Prop} {h : Array Obj} {t : Ty} {vs : List Value} {x : t.den} {f : Bool} (hf : f = true → hasSl t = false) (hS : ∀ k, S k → S' k) (H : Rep h (S2 S N0 true) t vs x ∨ Rep h (S2 S N0 false) t vs x) : Rep h (S2 S' N0 f) t vs x := by
  cases f with
  | true => exact H.elim (Rep.noSl (fun _ _ _ _ h => .inl (h.elim id fun h => h.2.elim)) (hf rfl)) (Rep.noSl (fun _ _ _ _ h => .inl (h.elim id fun h => h.2.elim)) (hf rfl))
  | false => exact H.elim (Rep.mono (fun k hk => hk.elim .inl fun h => by cases h.1) fun _ _ => rfl) (Rep.mono (fun k hk => hk.elim .inl fun h => .inr ⟨rfl, up.mono hS k h.2⟩) fun _ _ => rfl)
theorem any_flag {h : Array Obj} {t : Ty} {vs : List Value} {x : t.den} {f : Bool} (H : Rep h (S2 SA N0 f) t vs x) : Rep h (S2 SA N0 (!(hasSl t))) t vs x := by
  refine sig_weak (S := SA) (fun h => by simpa using h) (fun _ h => h) ?_
  cases f
  · exact .inr H
  · exact .inl H
/-- Cells that come in. -/
theorem inCells_sound {i : Nat} : ∀ {l : List CSh} {j : Nat} {p : Pay l} {vs : List Value} {bs : List Nat}, CellsOut w SA N0 l p vs bs → bs.Nodup →
    (inCells i j l p).2.2 = j + cntCells l ∧ ∃ β, ObjsIn w SA N0 β (inCells i j l p).2.1 (pnm i j) (pnm i (j + cntCells l)) bs ∧ CellsRep w.heap SA N0 β (inCells i j l p).1 vs ∧
      ∀ n ∈ (inCells i j l p).1.flatMap cellNames, pnm i j ≤ n ∧ n < pnm i (j + cntCells l)
  | [], j, p, vs, bs, ⟨h1, h2⟩, _ => by
    subst h1 h2
    exact ⟨rfl, fun _ => undef, .nil, rfl, fun n hn => by simp [inCells] at hn⟩
  | .val t f :: l, j, p, _, bs, ⟨v, r, rfl, h1, h2⟩, hnd => by
    obtain ⟨k1, β, k2, k3, k4⟩ := inCells_sound (i := i) (j := j) h2 hnd
    refine ⟨k1, β, k2, ⟨v, r, rfl, any_flag h1, k3⟩, fun n hn => ?_⟩
    simp only [inCells, List.flatMap_cons, cellNames, List.nil_append] at hn
    exact k4 n hn
  | .row t et f :: l, j, p, _, _, ⟨v, r, cells, b, rfl, rfl, h0, h1, h2⟩, hnd => by
    obtain ⟨k1, β, k2, k3, k4⟩ := inCells_sound (i := i) (j := j + 1) h2 (List.nodup_append.1 hnd).2.1
    have hc : j + cntCells (.row t et f :: l) = j + 1 + cntCells l := by simp only [cntCells]; omega
    rw [hc]
    have hlt : pnm i j < pnm i (j + 1 + cntCells l) := by simp only [pnm]; omega
    rw [pnm_succ] at k2
    have hne : ∀ n, pnm i j + 1 ≤ n → upd β (pnm i j) v n = β n := fun n h => upd_ne v (by omega)
    refine ⟨k1, upd β (pnm i j) v, k2.cons hlt (ov := .row t et p.1 (!(hasSl t)) 2) ⟨cells, by rw [upd_same]; exact h0, h1.mono fun _ _ hr => any_flag hr⟩ rfl (fun n hn => by simp [OV.names] at hn) trivial hnd,
      ⟨v, r, rfl, ⟨(upd_same _ _).symm, owns_slice h0⟩, cells_congr (fun n hn => hne n (by have := (k4 n hn).1; rw [pnm_succ] at this; exact this)) k3⟩, fun n hn => ?_⟩
    simp only [inCells, List.flatMap_cons, cellNames, List.singleton_append, List.mem_cons] at hn
    rcases hn with rfl | hn
    · exact ⟨Nat.le_refl _, hlt⟩
    · have := k4 n hn
      rw [pnm_succ] at this
      omega
theorem varIn_sound {i j : Nat} {cs : List CSh} {p : Pay cs} {v : Value} (H : VarOut w SA N0 cs p v bs) (hnd : bs.Nodup) :
    (inCells i (j + 1) cs p).2.2 = j + 1 + cntCells cs ∧ ∃ β, ObjsIn w SA N0 β ((pnm i j, some (.box (inCells i (j + 1) cs p).1 2)) :: (inCells i (j + 1) cs p).2.1) (pnm i j) (pnm i (j + 1 + cntCells cs)) bs ∧ β (pnm i j) = v ∧
      ∃ g, v = .pointer (some ⟨g, 0, none⟩) := by
  obtain ⟨g, arr, et, b, rfl, harr, hc, rfl⟩ := H
  obtain ⟨k1, β, k2, k3, k4⟩ := inCells_sound (i := i) (j := j + 1) hc (List.nodup_cons.1 hnd).2
  have hlt : pnm i j < pnm i (j + 1 + cntCells cs) := by simp only [pnm]; omega
  rw [pnm_succ] at k2
  have hne : ∀ n, pnm i j + 1 ≤ n → upd β (pnm i j) (.pointer (some ⟨g, 0, none⟩)) n = β n := fun n h => upd_ne _ (by omega)
  have hn : ∀ n ∈ (inCells i (j + 1) cs p).1.flatMap cellNames, pnm i j + 1 ≤ n ∧ n < pnm i (j + 1 + cntCells cs) := fun n hn => by
    have := k4 n hn
    rw [pnm_succ] at this
    exact this
  exact ⟨k1, upd β (pnm i j) (.pointer (some ⟨g, 0, none⟩)), k2.cons hlt (ov := .box _ 2) ⟨g, arr, et, upd_same _ _, harr, cells_congr (fun n h => hne n (hn n h).1) k3⟩ rfl hn trivial (by simpa [ownB] using hnd), upd_same _ _, g, rfl⟩
theorem inBoxes_sound {i : Nat} : ∀ {l : List (List CSh)} {j : Nat} {p : Pay l.flatten} {ps : List Value} {bs : List Nat}, VarsOut w SA N0 l p ps bs → bs.Nodup →
    ∃ β, ObjsIn w SA N0 β (inBoxes i j l p).2 (pnm i j) (pnm i (j + (cntBoxes l + l.length))) bs ∧ ps = (inBoxes i j l p).1.map β ∧ ∀ o ∈ (inBoxes i j l p).1, pnm i j ≤ o ∧ o < pnm i (j + (cntBoxes l + l.length)) ∧ ∃ g, β o = .pointer (some ⟨g, 0, none⟩)
  | [], j, p, ps, bs, ⟨h1, h2⟩, _ => by
    subst h1 h2
    exact ⟨fun _ => undef, .nil, rfl, fun o ho => by simp [inBoxes] at ho⟩
  | cs :: l, j, p, _, _, ⟨v, r, b1, b2, rfl, rfl, h1, h2⟩, hnd => by
    obtain ⟨n1, n2, _⟩ := List.nodup_append.1 hnd
    obtain ⟨k1, β1, k2, k3, g, k4⟩ := varIn_sound (i := i) (j := j) h1 n1
    obtain ⟨β2, q1, q2, q3⟩ := inBoxes_sound (i := i) (j := j + 1 + cntCells cs) h2 n2
    have hc : j + (cntBoxes (cs :: l) + (cs :: l).length) = j + 1 + cntCells cs + (cntBoxes l + l.length) := by simp only [cntBoxes, List.length_cons]; omega
    rw [hc]
    have ha := k2.append q1 (by simp only [pnm]; omega) (by simp only [pnm]; omega) hnd
    have e2 : ∀ o, o ∈ (inBoxes i (j + 1 + cntCells cs) l (Pay.split cs l.flatten p).2).1 → glue (pnm i (j + 1 + cntCells cs)) β1 β2 o = β2 o := fun o ho => if_neg (by have := (q3 o ho).1; omega)
    have e1 : glue (pnm i (j + 1 + cntCells cs)) β1 β2 (pnm i j) = v := by
      rw [← k3]
      exact if_pos (by simp only [pnm]; omega)
    refine ⟨_, by simp only [inBoxes]; rw [k1]; exact ha, ?_, fun o ho => ?_⟩
    · simp only [inBoxes, k1, List.map_cons, e1]
      rw [q2]
      congr 1
      exact List.map_congr_left fun o ho => (e2 o ho).symm
    · simp only [inBoxes, k1, List.mem_cons] at ho
      rcases ho with rfl | ho
      · exact ⟨Nat.le_refl _, by simp only [pnm]; omega, g, by rw [e1]; exact k4⟩
      · obtain ⟨a1, a2, g', a3⟩ := q3 o ho
        exact ⟨by have : pnm i j ≤ pnm i (j + 1 + cntCells cs) := by simp only [pnm]; omega
                  omega, a2, g', by rw [e2 o ho]; exact a3⟩
theorem cellsOut_vals {SF : Loc → Prop} : ∀ {l : List CSh} {p : Pay l} {vs : List Value} {bs : List Nat}, CellsOut w SA SF l p vs bs → l.all isVal = true → bs = []
  | [], _, _, _, h, _ => h.2
  | .val _ _ :: l, _, _, _, ⟨_, _, _, _, h⟩, hv => cellsOut_vals h (by simpa [isVal] using hv)
  | .row _ _ _ :: l, _, _, _, _, hv => by simp [isVal] at hv
theorem ObjsIn.widen {hi' : Nat} (H : ObjsIn w SA N0 β L lo hi bs) (h : hi ≤ hi') : ObjsIn w SA N0 β L lo hi' bs :=
  ⟨fun o ov ho => let ⟨h1, h2, h3, h4, h5, h6, h7⟩ := H.mem o ov ho; ⟨h1, by omega, h3, h4, h5, fun n hn => ⟨(h6 n hn).1, by have := (h6 n hn).2; omega⟩, h7⟩, H.inj⟩
theorem ObjsIn.sub {bs' : List Nat} (H : ObjsIn w SA N0 β L lo hi bs) (h : ∀ g ∈ bs, g ∈ bs') : ObjsIn w SA N0 β L lo hi bs' :=
  ⟨fun o ov ho => let ⟨h1, h2, h3, h4, h5, h6⟩ := H.mem o ov ho; ⟨h1, h2, h3, h4, fun g hg => h g (h5 g hg), h6⟩, H.inj⟩
theorem inArg_sound {i : Nat} {p : PSh} {q : Pay p.flat} {v : Value} {ps : List Value} {ms : List Nat} (H : ArgIn w SA N0 p q v ps bs ms) (hnd : (bs ++ ms).Nodup) (hc : cntArg p ≤ 64) :
    ∃ β, SVRep w.heap SA N0 β (inArg i p q).1 v ∧ ObjsIn w SA N0 β (inArg i p q).2 (pnm i 0) (pnm (i + 1) 0) (bs ++ ms) ∧ ∀ n ∈ (inArg i p q).1.names, pnm i 0 ≤ n ∧ n < pnm (i + 1) 0 := by
  have hw : ∀ k, k ≤ 64 → pnm i (0 + k) ≤ pnm (i + 1) 0 := fun k hk => by simp only [pnm]; omega
  cases p with
  | cell c =>
    obtain ⟨_, rfl, h4⟩ := H
    obtain ⟨k1, β, k2, k3, k4⟩ := inCells_sound (i := i) (j := 0) h4 hnd
    have hc' : cntCells [c] ≤ 64 := hc
    have hle := hw _ hc'
    have hx : ∃ x, (inCells i 0 [c] q).1 = [x] := by cases c <;> exact ⟨_, rfl⟩
    obtain ⟨x, hx⟩ := hx
    have e1 : inArg i (.cell c) q = (.cell x, (inCells i 0 [c] q).2.1) := by simp only [inArg, hx]
    rw [hx] at k3 k4
    obtain ⟨v', r, hv, h5, _⟩ := k3
    cases hv
    rw [e1]
    exact ⟨β, h5, k2.widen hle, fun n hn => by
      have := k4 n (by simpa [SV.names] using hn)
      exact ⟨this.1, by omega⟩⟩
  | agg cs =>
    obtain ⟨_, rfl, us, rfl, h4⟩ := H
    obtain ⟨k1, β, k2, k3, k4⟩ := inCells_sound (i := i) (j := 0) h4 hnd
    have hc' : cntCells cs ≤ 64 := hc
    have hle := hw _ hc'
    exact ⟨β, ⟨us, rfl, k3⟩, k2.widen hle, fun n hn => by
      have := k4 n hn
      exact ⟨this.1, by omega⟩⟩
  | box cs =>
    obtain ⟨_, rfl, h2⟩ := H
    rw [List.append_nil] at hnd ⊢
    obtain ⟨k1, β, k2, k3, g, k4⟩ := varIn_sound (i := i) (j := 0) h2 hnd
    simp only [cntArg] at hc
    refine ⟨β, ⟨g, by rw [k3, k4], k4⟩, k2.widen (by simp only [pnm]; omega), fun n hn => ?_⟩
    · simp only [inArg, SV.names, cellNames, List.mem_singleton] at hn
      subst hn
      exact ⟨Nat.le_refl _, by simp only [pnm]; omega⟩
  | fn f l =>
    obtain ⟨rfl, rfl, h2⟩ := H
    rw [List.append_nil] at hnd ⊢
    obtain ⟨β, k1, k2, k3⟩ := inBoxes_sound (i := i) (j := 0) h2 hnd
    simp only [cntArg] at hc
    have := hw _ hc
    exact ⟨β, ⟨by rw [k2], fun o ho => (k3 o ho).2.2⟩, k1.widen this, fun n hn => ⟨(k3 n hn).1, by have := (k3 n hn).2.1; omega⟩⟩
theorem inEnv_sound : ∀ {ins : List PSh} {i : Nat} {q : Pay (ins.flatMap PSh.flat)} {vs ps : List Value} {bs ms : List Nat}, ArgsIn w SA N0 ins q vs ps bs ms → (bs ++ ms).Nodup → (∀ p ∈ ins, cntArg p ≤ 64) →
    vs.length = ins.length ∧ ∃ β, (∀ s sv, (inEnv i ins q).slot s = some sv → i ≤ s ∧ s < i + vs.length ∧ SVRep w.heap SA N0 β sv (vs.getD (s - i) undef) ∧ ∀ n ∈ sv.names, pnm i 0 ≤ n ∧ n < pnm (i + ins.length) 0) ∧
      ObjsIn w SA N0 β (inEnv i ins q).objs (pnm i 0) (pnm (i + ins.length) 0) (bs ++ ms)
  | [], i, q, vs, ps, bs, ms, ⟨h1, h2, h3, h4⟩, _, _ => by
    subst h1 h2 h3 h4
    exact ⟨rfl, fun _ => undef, fun s sv h => (by cases h), .nil⟩
  | p :: ins, i, q, _, _, _, _, ⟨v, r, p1, p2, b1, b2, m1, m2, rfl, rfl, rfl, rfl, h1, h2⟩, hnd, hc => by
    have hperm : ((b1 ++ b2) ++ (m1 ++ m2)).Perm ((b1 ++ m1) ++ (b2 ++ m2)) := by
      rw [List.append_assoc, List.append_assoc]
      refine List.Perm.append_left _ ?_
      rw [← List.append_assoc, ← List.append_assoc]
      exact List.Perm.append_right _ List.perm_append_comm
    have hnd := hperm.nodup_iff.1 hnd
    obtain ⟨n1, n2, _⟩ := List.nodup_append.1 hnd
    obtain ⟨β1, k1, k2, k3⟩ := inArg_sound (i := i) h1 n1 (hc p (List.mem_cons_self ..))
    obtain ⟨hlen, β2, q1, q2⟩ := inEnv_sound (i := i + 1) h2 n2 (fun p hp => hc p (List.mem_cons_of_mem _ hp))
    have hl : i + (p :: ins).length = i + 1 + ins.length := by simp only [List.length_cons]; omega
    rw [hl]
    have hmid : pnm i 0 ≤ pnm (i + 1) 0 := by simp only [pnm]; omega
    have hmid2 : pnm (i + 1) 0 ≤ pnm (i + 1 + ins.length) 0 := by simp only [pnm]; omega
    have hone : pnm (i + 1) 0 = pnm i 0 + 64 := by simp only [pnm]; omega
    refine ⟨by simp [hlen], glue (pnm (i + 1) 0) β1 β2, fun s sv h => ?_, (k2.append q2 hmid hmid2 hnd).sub fun g hg => hperm.mem_iff.2 hg⟩
    simp only [Env.slot, inEnv, look_cons] at h
    split at h
    · subst_vars
      cases h
      refine ⟨Nat.le_refl _, by simp, ?_, fun n hn => ⟨(k3 n hn).1, by have := (k3 n hn).2; omega⟩⟩
      rw [Nat.sub_self]
      exact SVRep.mono (fun _ h => h) (fun _ _ => rfl) (fun n hn => if_pos (k3 n hn).2) k1
    · obtain ⟨a1, a2, a3, a4⟩ := q1 s sv h
      refine ⟨by omega, by simp only [List.length_cons]; omega, ?_, fun n hn => ⟨by have := (a4 n hn).1; omega, (a4 n hn).2⟩⟩
      rw [show s - i = (s - (i + 1)) + 1 by omega]
      simp only [List.getD_cons_succ]
      exact SVRep.mono (fun _ h => h) (fun _ _ => rfl) (fun n hn => if_neg (by have := (a4 n hn).1; omega)) a3
end
end Go.Px

/- Calls: how a call ends. -/
namespace Go.Px
open Go

def blk (β : Nat → Value) (o : Nat) : List Nat := (ownB (β o)).toList
section
variable {P : Program} {T : Types} {c : Ctx} {β : Nat → Value} {SF SF' : Loc → Prop} {e e' ez : Env} {a : Act} {w : World}
def Fzn (e : Env) (o : Nat) : Prop := ∃ (t : Ty) (et : Nat) (xs : List t.den) (f : Bool) (st : Nat), e.obj o = some (.row t et xs f st) ∧ (st = 0 ∨ st = 1)
theorem freeze_list : ∀ {zs : List Nat} {e' : Env} {SF : Loc → Prop}, Frz e e' → RelB c β SF e' a w → (∀ o ∈ zs, Fzn e o) →
    ∃ SF' e'', (∀ k, SF k → SF' k) ∧ Frz e e'' ∧ RelB c β SF' e'' a w ∧ (∀ o ∈ zs, ∀ (t : Ty) (et : Nat) (xs : List t.den) (f : Bool) (st : Nat), e.obj o = some (.row t et xs f st) → e''.obj o = some (.row t et xs f 1)) ∧ ∀ o, o ∉ zs → e''.obj o = e'.obj o
  | [], e', SF, F, H, _ => ⟨SF, e', fun _ h => h, F, H, fun o ho => (by cases ho), fun _ _ => rfl⟩
  | o :: zs, e', SF, F, H, hz => by
    obtain ⟨t, et, xs, f, st, ho, hst⟩ := hz o (List.mem_cons_self ..)
    have key : ∀ (e1 : Env) (SF1 : Loc → Prop), (∀ k, SF k → SF1 k) → Frz e e1 → RelB c β SF1 e1 a w → e1.obj o = some (.row t et xs f 1) → (∀ n, n ≠ o → e1.obj n = e'.obj n) →
        ∃ SF' e'', (∀ k, SF k → SF' k) ∧ Frz e e'' ∧ RelB c β SF' e'' a w ∧ (∀ n ∈ o :: zs, ∀ (t : Ty) (et : Nat) (xs : List t.den) (f : Bool) (st : Nat), e.obj n = some (.row t et xs f st) → e''.obj n = some (.row t et xs f 1)) ∧ ∀ n, n ∉ o :: zs → e''.obj n = e'.obj n := by
      intro e1 SF1 h1 h2 h3 h4 h5
      obtain ⟨SF2, e2, k1, k2, k3, k4, k5⟩ := freeze_list h2 h3 (fun n hn => hz n (List.mem_cons_of_mem _ hn))
      refine ⟨SF2, e2, fun k hk => k1 k (h1 k hk), k2, k3, fun n hn t' et' xs' f' st' hn' => ?_, fun n hn => ?_⟩
      · by_cases hm : n ∈ zs
        · exact k4 n hm t' et' xs' f' st' hn'
        · have : n = o := (List.mem_cons.1 hn).resolve_right hm
          subst this
          rw [ho] at hn'
          cases hn'
          rw [k5 _ hm, h4]
      · rw [List.mem_cons, not_or] at hn
        rw [k5 n hn.2, h5 n hn.1]
    rcases F.objs _ _ ho with h1 | ⟨t', et', xs', f', h1, h2⟩
    · rcases hst with rfl | rfl
      · refine key (e'.put (.obj o (some (.row t et xs f 1)))) (fz SF (β o)) fz.sub ⟨F.slots, fun n ov hn => ?_, fun n ov hn => ?_⟩ (H.freeze h1) (by rw [obj_put_obj, if_pos rfl]) (fun n hn => by rw [obj_put_obj, if_neg fun h => hn h.symm])
        · rw [obj_put_obj]
          by_cases hc : o = n
          · subst hc
            rw [ho] at hn
            cases hn
            exact .inr ⟨t, et, xs, f, rfl, if_pos rfl⟩
          · rw [if_neg hc]; exact F.objs _ _ hn
        · rw [obj_put_obj] at hn
          by_cases hc : o = n
          · subst hc
            rw [if_pos rfl] at hn
            cases hn
            exact ⟨_, ho, rfl⟩
          · rw [if_neg hc] at hn; exact F.back _ _ hn
      · exact key e' SF (fun _ h => h) F H h1 (fun _ _ => rfl)
    · cases h1
      exact key e' SF (fun _ h => h) F H h2 (fun _ _ => rfl)
theorem settle_fzn {x cl : Cell} {ws : List W} (h : settle e x = some (cl, ws)) : ∀ o ∈ rowName x, Fzn e o := by
  intro o ho
  cases x <;> simp only [rowName, List.not_mem_nil, List.mem_singleton] at ho
  subst ho
  unfold settle at h
  simp only at h
  split at h
  · rename_i t et xs f h1; exact ⟨t, et, xs, f, _, h1, .inl rfl⟩
  · rename_i t et xs f h1; exact ⟨t, et, xs, f, _, h1, .inr rfl⟩
  · cases h
theorem settle_frozen (H : RelB c β SF' ez a w) (hS : ∀ k, SF k → SF' k) {x cl : Cell} {ws : List W} (h : settle e x = some (cl, ws)) (hz : ∀ o ∈ rowName x, ∀ (t : Ty) (et : Nat) (xs : List t.den) (f : Bool) (st : Nat), e.obj o = some (.row t et xs f st) → ez.obj o = some (.row t et xs f 1))
    {v : Value} (hv : CellRep w.heap c.SA SF β x v) : CellRep w.heap c.SA SF' β cl v := by
  have hr : ∀ (o : Nat) (t : Ty) (et : Nat) (xs : List t.den) (f : Bool) (st : Nat), x = .row o → e.obj o = some (.row t et xs f st) → CellRep w.heap c.SA SF' β (.val (.slice t) xs f) v := by
    rintro o t et xs f st rfl ho
    have h1 := hz o (by simp [rowName]) t et xs f st ho
    refine row_frozen (SF := SF') (H.objs _ _ h1) (fun _ h => h) (fun g hg => ?_) (hv.mono hS (fun _ _ => rfl) (fun _ _ => rfl))
    rcases (H.own _ _ g h1 hg).2 with h | h | h
    · exact absurd h.1 (by simp [OV.st])
    · exact h.2
    · exact absurd h.1 (by simp [OV.st])
  unfold settle at h
  split at h
  · cases h; exact hv.mono hS (fun _ _ => rfl) (fun _ _ => rfl)
  · cases h; exact hv
  · rename_i o
    split at h
    · rename_i t et xs f h1; cases h; exact hr o t et xs f _ rfl h1
    · rename_i t et xs f h1; cases h; exact hr o t et xs f _ rfl h1
    · cases h
  · cases h
theorem as_rep' {h : Array Obj} {SA : Nat → Prop} {SF : Loc → Prop} {t : Ty} {cl : Cell} {x : t.den} {v : Value} {f : Bool} (H : CellRep h SA SF β cl v) (hx : cl.as t = some x) (hf : (!f || cl.fr || !(hasSl t)) = true) : Rep h (S2 SA SF f) t [v] x := by
  cases f with
  | false => exact as_rep H hx (fun h => by cases h)
  | true =>
    cases hc : cl.fr with
    | true => exact as_rep H hx (fun _ => hc)
    | false =>
      rw [hc] at hf
      have : hasSl t = false := by simpa using hf
      exact Rep.noSl (S2.memF _) this (as_rep (f := false) H hx (fun h => by cases h))
/-- What the cells of a result come to. -/
theorem retCells_sound {lent : Bool} (hS : ∀ k, SF k → SF' k) (H : RelB c β SF' ez a w) : ∀ {l : List CSh} {xs : List Cell} {p : Pay l} {zs rs : List Nat} {vs : List Value}, retCells e lent l xs = some (p, zs, rs) → CellsRep w.heap c.SA SF β xs vs →
    (∀ o ∈ zs, Fzn e o) ∧ (∀ o ∈ rs, ∃ ov, e.obj o = some ov ∧ (ov.st = 0 ∨ lent = true ∧ ov.st = 2) ∧ ov.flat) ∧
    ((∀ o ∈ zs, ∀ (t : Ty) (et : Nat) (xs : List t.den) (f : Bool) (st : Nat), e.obj o = some (.row t et xs f st) → ez.obj o = some (.row t et xs f 1)) → (∀ o ∈ rs, ez.obj o = e.obj o) → CellsOut w c.SA SF' l p vs (rs.flatMap (blk β)))
  | [], [], _, _, _, _, h, hv => by
    simp only [retCells] at h
    cases h
    exact ⟨fun o ho => (by cases ho), fun o ho => (by cases ho), fun _ _ => ⟨hv, rfl⟩⟩
  | [], _ :: _, _, _, _, _, h, _ => by simp only [retCells] at h; cases h
  | .val _ _ :: _, [], _, _, _, _, h, _ => by simp only [retCells] at h; cases h
  | .row _ _ _ :: _, [], _, _, _, _, h, _ => by simp only [retCells] at h; cases h
  | .val t f :: l, x :: xs, p, zs, rs, _, h, ⟨v, r, rfl, h1, h2⟩ => by
    simp only [retCells] at h
    split at h
    · rename_i q zs' rs' hq
      split at h
      · rename_i cl ws hset
        obtain ⟨hf, h⟩ := ite_some h
        split at h
        · rename_i z hz
          cases h
          obtain ⟨k1, k2, k3⟩ := retCells_sound hS H hq h2
          refine ⟨fun o ho => ?_, k2, fun a1 a2 => ⟨v, r, rfl, ?_, k3 (fun o ho => a1 o (List.mem_append_right _ ho)) a2⟩⟩
          · rcases List.mem_append.1 ho with ho | ho
            · exact settle_fzn hset o ho
            · exact k1 o ho
          · exact as_rep' (settle_frozen H hS hset (fun o ho => a1 o (List.mem_append_left _ ho)) h1) hz hf
        · cases h
      · cases h
    · cases h
  | .row t et f :: l, x :: xs, p, zs, rs, _, h, ⟨v, r, rfl, h1, h2⟩ => by
    simp only [retCells] at h
    split at h
    · rename_i q zs' rs' hq
      obtain ⟨k1, k2, k3⟩ := retCells_sound hS H hq h2
      split at h
      · cases h
        have hv : v = .slice none 0 0 := h1
        subst hv
        exact ⟨k1, k2, fun a1 a2 => ⟨_, r, [], _, rfl, rfl, World.ownsR_nil _ _ _ _, rfl, k3 a1 a2⟩⟩
      · rename_i o
        split at h
        · rename_i t' et' xs' f' st ho
          obtain ⟨hc, h'⟩ := ite_some h
          clear h
          simp only [Bool.and_eq_true, Nat.beq_eq, Bool.or_eq_true] at hc
          obtain ⟨rfl, hfl, hst⟩ := hc
          split at h'
          · rename_i z hz
            obtain ⟨rfl, hz⟩ := tyList_eq hz
            cases hz
            cases h'
            refine ⟨k1, fun n hn => ?_, fun a1 a2 => ?_⟩
            · rcases List.mem_cons.1 hn with rfl | hn
              · exact ⟨_, ho, hst, trivial⟩
              · exact k2 n hn
            · have ho' : ez.obj o = some (.row t' et xs' f' st) := by rw [a2 o (List.mem_cons_self ..)]; exact ho
              obtain ⟨hv, _⟩ := h1
              obtain ⟨cells, g1, g2⟩ := H.objs _ _ ho'
              refine ⟨v, r, cells, rs'.flatMap (blk β), rfl, by rw [List.flatMap_cons, blk, ← hv], by rw [hv]; exact g1, g2.mono fun _ _ hr => ?_, k3 a1 (fun n hn => a2 n (List.mem_cons_of_mem _ hn))⟩
              cases f with
              | false => exact Rep.mono (S2.weak f' false fun h => rfl) (fun _ _ => rfl) hr
              | true =>
                cases f' with
                | true => exact hr
                | false => exact Rep.noSl (S2.memF _) (by simpa using hfl) hr
          · cases h'
        · cases h
      · cases h
    · cases h
theorem split_append : ∀ (a b : List CSh) (p : Pay a) (q : Pay b), Pay.split a b (Pay.append a b p q) = (p, q)
  | [], _, _, _ => rfl
  | _ :: a, b, p, q => by
    simp only [Pay.append, Pay.split, split_append a b p.2 q]
    rfl
def resRun (tmps : Array Value) : ResultVar → Sem Value
  | .tmp t => pure (tmps.getD t undef)
  | .cell a t => do loadVar t (← asAddr (tmps.getD a undef))
theorem retVar_sound (HT : TOk P T) (H : RelB c β SF e a w) {k : Nat} {r : ResultVar} {xs : List Cell} {ns : List Nat} (h : retVar T e k r = some (xs, ns)) :
    ∃ v, (resRun a.tmps r).run P w = .ok v w ∧ ((k ≠ 2 ∧ ns = [] ∧ ∃ us, CellsRep w.heap c.SA SF β xs us ∧ v = valOf (Nat.beq k 1) us) ∨
      (k = 2 ∧ ∃ o g arr et, ns = [o] ∧ e.obj o = some (.box xs 0) ∧ β o = .pointer (some ⟨g, 0, none⟩) ∧ v = .pointer (some ⟨g, 0, none⟩) ∧ w.heap[g]? = some (.cells arr et (0, 0)) ∧ CellsRep w.heap c.SA SF β xs arr.toList)) := by
  cases r with
  | tmp t =>
    refine ⟨a.tmps.getD t undef, rfl, ?_⟩
    simp only [retVar] at h
    split at h
    · rename_i cl hs
      cases h
      exact .inl ⟨by omega, rfl, [a.tmps.getD t undef], .cons (H.slots _ _ hs).2 .nil, rfl⟩
    · rename_i cs hs
      cases h
      obtain ⟨_, vs, h1, h2⟩ := H.slots _ _ hs
      exact .inl ⟨by omega, rfl, vs, h2, h1⟩
    · rename_i o hs
      split at h
      · rename_i xs' ho
        cases h
        obtain ⟨_, g, h1, h2⟩ := H.slots _ _ hs
        obtain ⟨g', arr, et, h3, h4, h5⟩ := H.objs _ _ ho
        rw [h1] at h3
        cases h3
        exact .inr ⟨rfl, o, g, arr, et, rfl, ho, h1, h2, h4, h5⟩
      · cases h
    · cases h
  | cell ad t =>
    simp only [retVar] at h
    split at h
    · rename_i i o hi hs
      split at h
      · rename_i xs' st ho
        obtain ⟨hlen, h'⟩ := ite_some h
        clear h
        simp only [Nat.beq_eq] at hlen
        obtain ⟨_, g, h1, h2⟩ := H.slots _ _ hs
        obtain ⟨g', arr, et, h3, h4, h5⟩ := H.objs _ _ ho
        rw [h1] at h3
        cases h3
        have hl := h5.len
        rw [Array.length_toList] at hl
        have hload : (i.isAgg = false → i.size = 1) → (resRun a.tmps (.cell ad t)).run P w = .ok (valOf i.isAgg arr.toList) w := fun hsz => by
          have := load_run HT hi h4 (off := 0) (by omega) hsz
          simp only [Instr.loadAt, Instr.sureAddr, Sem.run_bind, Sem.run_pure, Result.andThen_ok, List.drop_zero] at this
          rw [List.take_of_length_le (by rw [Array.length_toList]; omega)] at this
          simp only [resRun, h2, asAddr, Sem.run_bind, Sem.run_pure, Result.andThen_ok, this]
        split at h'
        · rename_i hag
          obtain ⟨hsz, h''⟩ := ite_some h'
          simp only [Nat.beq_eq] at hsz
          cases h''
          exact ⟨_, hload fun _ => hsz, .inl ⟨by omega, rfl, arr.toList, h5, by rw [hag]; rfl⟩⟩
        · rename_i hag
          cases h'
          exact ⟨_, hload fun hf => (by rw [hag] at hf; cases hf), .inl ⟨by omega, rfl, arr.toList, h5, by rw [hag]; rfl⟩⟩
        · cases h'
      · cases h
    · cases h
def Keeps (e ez : Env) (zs rs : List Nat) : Prop :=
  (∀ o ∈ zs, ∀ (t : Ty) (et : Nat) (xs : List t.den) (f : Bool) (st : Nat), e.obj o = some (.row t et xs f st) → ez.obj o = some (.row t et xs f 1)) ∧ ∀ o ∈ rs, ez.obj o = e.obj o
theorem Keeps.sub {zs rs zs' rs' : List Nat} (h : Keeps e ez zs rs) (h1 : ∀ o ∈ zs', o ∈ zs) (h2 : ∀ o ∈ rs', o ∈ rs) : Keeps e ez zs' rs' := ⟨fun o ho => h.1 o (h1 o ho), fun o ho => h.2 o (h2 o ho)⟩
theorem retVars_fzn {lent : Bool} : ∀ {rs : List ResultVar} {l : List (Nat × List CSh)} {q : Pay (flatOuts l)} {zs ms : List Nat}, TOk P T → RelB c β SF e a w → retVars T e lent rs l = some (q, zs, ms) →
    (∀ o ∈ zs, Fzn e o) ∧ ∀ o ∈ ms, ∃ ov, e.obj o = some ov ∧ (ov.st = 0 ∨ lent = true ∧ ov.st = 2) ∧ ov.flat
  | [], [], _, _, _, _, _, h => by cases h; exact ⟨fun o ho => (by cases ho), fun o ho => (by cases ho)⟩
  | [], _ :: _, _, _, _, _, _, h => by cases h
  | _ :: _, [], _, _, _, _, _, h => by cases h
  | r :: rs, bc :: l, q, zs, ms, HT, H, h => by
    simp only [retVars] at h
    split at h
    · rename_i xs ns q' zs' ms' h1 h2
      split at h
      · rename_i p zs1 ms1 h3
        cases h
        obtain ⟨k1, k2⟩ := retVars_fzn HT H h2
        obtain ⟨v, _, hv⟩ := retVar_sound HT H h1
        have hc : ∃ us, CellsRep w.heap c.SA SF β xs us := hv.elim (fun h => let ⟨_, _, us, h, _⟩ := h; ⟨us, h⟩) (fun h => let ⟨_, _, _, arr, _, _, _, _, _, _, h⟩ := h; ⟨_, h⟩)
        obtain ⟨us, hus⟩ := hc
        obtain ⟨g1, g2, _⟩ := retCells_sound (fun _ h => h) H h3 hus
        refine ⟨fun o ho => (List.mem_append.1 ho).elim (g1 o) (k1 o), fun o ho => ?_⟩
        rcases List.mem_append.1 ho with ho | ho
        · rcases List.mem_append.1 ho with ho | ho
          · rcases hv with ⟨_, hn, _⟩ | ⟨_, o', g, arr, et, hn, ho', _⟩
            · rw [hn] at ho; cases ho
            · rw [hn] at ho
              have := List.mem_singleton.1 ho
              subst this
              exact ⟨_, ho', .inl rfl, trivial⟩
          · exact g2 o ho
        · exact k2 o ho
      · cases h
    · cases h
theorem retVars_sound {lent : Bool} (HT : TOk P T) (H : RelB c β SF e a w) (hS : ∀ k, SF k → SF' k) (HZ : RelB c β SF' ez a w) : ∀ {rs : List ResultVar} {l : List (Nat × List CSh)} {q : Pay (flatOuts l)} {zs ms : List Nat}, retVars T e lent rs l = some (q, zs, ms) → Keeps e ez zs ms →
    ∃ us, (rs.mapM (resRun a.tmps)).run P w = .ok us w ∧ OutsOut w c.SA SF' l q us (ms.flatMap (blk β))
  | [], [], _, _, _, h, _ => by cases h; exact ⟨[], rfl, rfl, rfl⟩
  | [], _ :: _, _, _, _, h, _ => by cases h
  | _ :: _, [], _, _, _, h, _ => by cases h
  | r :: rs, bc :: l, q, zs, ms, h, K => by
    simp only [retVars] at h
    split at h
    · rename_i xs ns q' zs' ms' h1 h2
      split at h
      · rename_i p zs1 ms1 h3
        cases h
        obtain ⟨us, k1, k2⟩ := retVars_sound HT H hS HZ h2 (K.sub (fun o ho => List.mem_append_right _ ho) (fun o ho => List.mem_append_right _ ho))
        obtain ⟨v, hv1, hv⟩ := retVar_sound HT H h1
        refine ⟨v :: us, by simp [List.mapM_cons, hv1, k1], v, us, (ns ++ ms1).flatMap (blk β), ms'.flatMap (blk β), rfl, by rw [List.flatMap_append], ?_, by rw [split_append]; exact k2⟩
        rw [split_append]
        have kz : ∀ o ∈ zs1, o ∈ zs1 ++ zs' := fun o ho => List.mem_append_left _ ho
        have km : ∀ o ∈ ms1, o ∈ ns ++ ms1 ++ ms' := fun o ho => List.mem_append_left _ (List.mem_append_right _ ho)
        have K1 := K.sub kz km
        rcases hv with ⟨hk, rfl, us', hus, rfl⟩ | ⟨hk, o, g, arr, et, rfl, ho', hb, rfl, harr, hus⟩
        · obtain ⟨_, _, g3⟩ := retCells_sound hS HZ h3 hus
          exact .inr ⟨hk, us', g3 K1.1 K1.2, rfl⟩
        · obtain ⟨_, _, g3⟩ := retCells_sound hS HZ h3 hus
          refine .inl ⟨hk, g, arr, et, _, rfl, harr, g3 K1.1 K1.2, ?_⟩
          simp [blk, hb, ownB]
      · cases h
    · cases h
theorem retBoxes_fzn (H : RelB c β SF e a w) : ∀ {l : List (List CSh)} {os : List Nat} {q : Pay l.flatten} {zs ms : List Nat}, retBoxes e l os = some (q, zs, ms) →
    (∀ o ∈ zs, Fzn e o) ∧ ∀ o ∈ ms, ∃ ov, e.obj o = some ov ∧ (ov.st = 0 ∨ ov.st = 2) ∧ ov.flat
  | [], [], _, _, _, h => by cases h; exact ⟨fun o ho => (by cases ho), fun o ho => (by cases ho)⟩
  | [], _ :: _, _, _, _, h => by cases h
  | _ :: _, [], _, _, _, h => by cases h
  | cs :: l, o :: os, q, zs, ms, h => by
    simp only [retBoxes] at h
    split at h
    · rename_i xs ho
      split at h
      · rename_i p zs1 ms1 q' zs' ms' h3 h2
        cases h
        obtain ⟨k1, k2⟩ := retBoxes_fzn H h2
        obtain ⟨g, arr, et, q1, q2, q3⟩ := H.objs _ _ ho
        obtain ⟨g1, g2, _⟩ := retCells_sound (fun _ h => h) H h3 q3
        refine ⟨fun o ho => (List.mem_append.1 ho).elim (g1 o) (k1 o), fun n hn => ?_⟩
        rcases List.mem_append.1 hn with hn | hn
        · rcases List.mem_cons.1 hn with rfl | hn
          · exact ⟨_, ho, .inr rfl, trivial⟩
          · obtain ⟨ov, r1, r2, r3⟩ := g2 n hn
            exact ⟨ov, r1, r2.imp id fun h => h.2, r3⟩
        · exact k2 n hn
      · cases h
    · cases h
theorem retBoxes_sound (H : RelB c β SF e a w) (hS : ∀ k, SF k → SF' k) (HZ : RelB c β SF' ez a w) : ∀ {l : List (List CSh)} {os : List Nat} {q : Pay l.flatten} {zs ms : List Nat}, retBoxes e l os = some (q, zs, ms) → Keeps e ez zs ms →
    VarsOut w c.SA SF' l q (os.map β) (ms.flatMap (blk β))
  | [], [], _, _, _, h, _ => by cases h; exact ⟨rfl, rfl⟩
  | [], _ :: _, _, _, _, h, _ => by cases h
  | _ :: _, [], _, _, _, h, _ => by cases h
  | cs :: l, o :: os, q, zs, ms, h, K => by
    simp only [retBoxes] at h
    split at h
    · rename_i xs ho
      split at h
      · rename_i p zs1 ms1 q' zs' ms' h3 h2
        cases h
        have k2 := retBoxes_sound H hS HZ h2 (K.sub (fun o ho => List.mem_append_right _ ho) (fun o ho => List.mem_append_right _ ho))
        obtain ⟨g, arr, et, q1, q2, q3⟩ := H.objs _ _ ho
        obtain ⟨_, _, g3⟩ := retCells_sound hS HZ h3 q3
        have K1 : Keeps e ez zs1 ms1 := K.sub (fun o ho => List.mem_append_left _ ho) (fun o ho => List.mem_append_left _ (List.mem_cons_of_mem _ ho))
        refine ⟨β o, os.map β, (o :: ms1).flatMap (blk β), ms'.flatMap (blk β), rfl, by rw [List.flatMap_append], ?_, by rw [split_append]; exact k2⟩
        rw [split_append]
        refine ⟨g, arr, et, _, q1, q2, g3 K1.1 K1.2, ?_⟩
        simp [blk, q1, ownB]
      · cases h
    · cases h
end
end Go.Px

/- Calls: a body does what it says. -/
namespace Go.Px
open Go

theorem nodupB_iff : ∀ {l : List Nat}, nodupB l = true → l.Nodup
  | [], _ => List.nodup_nil
  | x :: l, h => by
    simp only [nodupB, Bool.and_eq_true, Bool.not_eq_true', List.any_eq_false, Nat.beq_eq] at h
    exact List.nodup_cons.2 ⟨fun hm => h.1 x hm rfl, nodupB_iff h.2⟩
section
variable {P : Program} {T : Types} {c : Ctx} {β : Nat → Value} {SF SF' : Loc → Prop} {e e' ez : Env} {a : Act} {w : World}
theorem blk_mem {o g : Nat} : g ∈ blk β o ↔ ownB (β o) = some g := by
  simp [blk]
theorem blks_nodup (H : RelB c β SF e a w) : ∀ {l : List Nat}, l.Nodup → (∀ o ∈ l, ∃ ov, e.obj o = some ov ∧ ov.flat) → (l.flatMap (blk β)).Nodup
  | [], _, _ => List.nodup_nil
  | o :: l, hn, ho => by
    obtain ⟨h1, h2⟩ := List.nodup_cons.1 hn
    rw [List.flatMap_cons, List.nodup_append]
    refine ⟨?_, blks_nodup H h2 fun n hn => ho n (List.mem_cons_of_mem _ hn), fun x hx y hy hxy => ?_⟩
    · unfold blk
      cases ownB (β o) <;> simp
    · subst hxy
      obtain ⟨n, hn1, hn2⟩ := List.mem_flatMap.1 hy
      obtain ⟨ov, hov, hfl⟩ := ho o (List.mem_cons_self ..)
      obtain ⟨ov', hov', hfl'⟩ := ho n (List.mem_cons_of_mem _ hn1)
      exact H.inj o n ov ov' x (fun h => h1 (h ▸ hn1)) hov hov' (Owns.of hfl (blk_mem.1 hx)) (Owns.of hfl' (blk_mem.1 hn2))
theorem boxSlots_ge : ∀ {l : List PSh} {i s : Nat}, s ∈ boxSlots i l → i ≤ s
  | [], _, _, h => by cases h
  | .cell _ :: l, i, s, h => by have := boxSlots_ge (l := l) (i := i + 1) h; omega
  | .agg _ :: l, i, s, h => by have := boxSlots_ge (l := l) (i := i + 1) h; omega
  | .box _ :: l, i, s, h => by
    rcases List.mem_cons.1 h with rfl | h
    · exact Nat.le_refl _
    · have := boxSlots_ge (l := l) (i := i + 1) h; omega
  | .fn _ _ :: l, i, s, h => by
    rcases List.mem_cons.1 h with rfl | h
    · exact Nat.le_refl _
    · have := boxSlots_ge (l := l) (i := i + 1) h; omega
theorem lent_sound (H : RelB c β SF e a w) {w0 : World} {SA : Nat → Prop} {N0 : Loc → Prop} : ∀ {ins : List PSh} {i : Nat} {q : Pay (ins.flatMap PSh.flat)} {vs ps : List Value} {bs ms os : List Nat}, ArgsIn w0 SA N0 ins q vs ps bs ms →
    (∀ s ∈ boxSlots i ins, a.tmps.getD s undef = vs.getD (s - i) undef) → lentNames e i ins = some os → ps = os.map β
  | [], i, q, vs, ps, bs, _, os, ⟨_, h2, _⟩, _, h => by
    simp only [lentNames] at h
    cases h
    exact h2
  | p :: ins, i, q, _, _, _, _, os, ⟨v, r, p1, p2, b1, b2, m1, m2, rfl, rfl, rfl, rfl, h1, h2⟩, hp, h => by
    have htail : ∀ {os}, (∀ s, s ∈ boxSlots (i + 1) ins → s ∈ boxSlots i (p :: ins)) → lentNames e (i + 1) ins = some os → p2 = os.map β := fun hsub h' =>
      lent_sound H h2 (fun s hs => by
        rw [hp s (hsub s hs)]
        have := boxSlots_ge hs
        rw [show s - i = (s - (i + 1)) + 1 by omega]
        rfl) h'
    cases p with
    | cell cc =>
      obtain ⟨rfl, _⟩ := h1
      exact htail (fun s hs => hs) h
    | agg cs =>
      obtain ⟨rfl, _⟩ := h1
      exact htail (fun s hs => hs) h
    | box cs =>
      obtain ⟨rfl, _⟩ := h1
      simp only [lentNames] at h
      split at h
      · rename_i o r' hs hr
        cases h
        obtain ⟨_, g, g1, g2⟩ := H.slots _ _ hs
        have hv := hp i (List.mem_cons_self ..)
        rw [Nat.sub_self] at hv
        simp only [List.getD_cons_zero] at hv
        rw [List.map_cons, ← htail (fun s hs => List.mem_cons_of_mem _ hs) hr, g1, ← g2, hv]
        rfl
      · cases h
    | fn f l =>
      obtain ⟨hv', _⟩ := h1
      simp only [lentNames] at h
      split at h
      · rename_i f' os' r' hs hr
        cases h
        obtain ⟨_, g1, g2⟩ := H.slots _ _ hs
        have hv := hp i (List.mem_cons_self ..)
        rw [Nat.sub_self] at hv
        simp only [List.getD_cons_zero] at hv
        rw [g1, hv'] at hv
        rw [List.map_append, ← htail (fun s hs => List.mem_cons_of_mem _ hs) hr]
        congr 1
        simp only [Value.func.injEq] at hv
        have := congrArg Array.toList hv.2.2
        simpa using this.symm
      · cases h
theorem run_mapM {α : Type} {f : α → Sem Value} {l : Array α} {us : List Value} (h : (l.toList.mapM f).run P w = .ok us w) : (l.mapM f).run P w = .ok us.toArray w := by
  rw [Array.mapM_eq_mapM_toList]
  simp [h]
theorem results_run {fn : Func} {tmps : Array Value} {us : List Value} (h : (fn.results.toList.mapM (resRun tmps)).run P w = .ok us w) : (results fn tmps).run P w = .ok (retOf us) w := by
  have h1 := run_mapM h
  have h2 : (results fn tmps) = (do let vs ← fn.results.mapM (resRun tmps); pure (if h : vs.size = 1 then vs[0] else .tuple vs)) := by
    unfold results
    congr 1
  rw [h2]
  simp only [Sem.run_bind, h1, Result.andThen_ok, Sem.run_pure, retOf]
  congr 1
  match us with
  | [] => rfl
  | [u] => rfl
  | u :: v :: r => rfl
theorem tmps_get {vs : List Value} {N s : Nat} : (vs.toArray ++ Array.replicate (N - vs.length) undef).getD s undef = vs.getD s undef := by
  rw [Array.getD_eq_getD_getElem?, Array.getElem?_append]
  simp only [List.size_toArray]
  split
  · rename_i h; simp [h]
  · rename_i h
    rw [List.getD_eq_getElem?_getD, List.getElem?_eq_none (by omega)]
    by_cases h2 : s - vs.length < N - vs.length
    · simp [h2]
    · simp [h2]
/-- The lent variables' blocks are those that the pointers tell. -/
theorem varOut_ps {w : World} {SA : Nat → Prop} {SF : Loc → Prop} {cs : List CSh} {p : Pay cs} {v : Value} {bs : List Nat} (h : VarOut w SA SF cs p v bs) : (∀ k, Value.pointer (some ⟨k, 0, none⟩) = v → k ∈ bs) ∧ (cs.all isVal = true → ∀ k ∈ bs, Value.pointer (some ⟨k, 0, none⟩) = v) := by
  obtain ⟨g, arr, et, b, rfl, _, h2, rfl⟩ := h
  refine ⟨fun k hk => ?_, fun hv k hk => ?_⟩
  · cases hk
    exact List.mem_cons_self ..
  · rw [cellsOut_vals h2 hv] at hk
    rw [List.mem_singleton.1 hk]
theorem varsOut_ps {w : World} {SA : Nat → Prop} {SF : Loc → Prop} : ∀ {l : List (List CSh)} {p : Pay l.flatten} {ps : List Value} {bs : List Nat}, VarsOut w SA SF l p ps bs →
    (∀ k, Value.pointer (some ⟨k, 0, none⟩) ∈ ps → k ∈ bs) ∧ (l.all (fun cs => cs.all isVal) = true → ∀ k ∈ bs, Value.pointer (some ⟨k, 0, none⟩) ∈ ps)
  | [], _, _, _, ⟨h1, h2⟩ => by
    subst h1 h2
    exact ⟨fun k hk => (by cases hk), fun _ k hk => (by cases hk)⟩
  | cs :: l, _, _, _, ⟨v, r, b1, b2, rfl, rfl, h1, h2⟩ => by
    obtain ⟨a1, a2⟩ := varOut_ps h1
    obtain ⟨q1, q2⟩ := varsOut_ps h2
    refine ⟨fun k hk => ?_, fun hv k hk => ?_⟩
    · rcases List.mem_cons.1 hk with hk | hk
      · exact List.mem_append_left _ (a1 k hk)
      · exact List.mem_append_right _ (q1 k hk)
    · rw [List.all_cons, Bool.and_eq_true] at hv
      rcases List.mem_append.1 hk with hk | hk
      · exact List.mem_cons.2 (.inl (a2 hv.1 k hk))
      · exact List.mem_cons.2 (.inr (q2 hv.2 k hk))
theorem argsIn_ps {w : World} {SA : Nat → Prop} {N0 : Loc → Prop} : ∀ {l : List PSh} {q : Pay (l.flatMap PSh.flat)} {vs ps : List Value} {bs ms : List Nat}, ArgsIn w SA N0 l q vs ps bs ms →
    (∀ k, Value.pointer (some ⟨k, 0, none⟩) ∈ ps → k ∈ bs) ∧ ((l.flatMap PSh.boxes).all (fun cs => cs.all isVal) = true → ∀ k ∈ bs, Value.pointer (some ⟨k, 0, none⟩) ∈ ps) ∧ (l.any isMov = false → ms = [])
  | [], _, _, _, _, _, ⟨_, h2, h3, h4⟩ => by
    subst h2 h3 h4
    exact ⟨fun k hk => (by cases hk), fun _ k hk => (by cases hk), fun _ => rfl⟩
  | p :: l, _, _, _, _, _, ⟨v, r, p1, p2, b1, b2, m1, m2, rfl, rfl, rfl, rfl, h1, h2⟩ => by
    obtain ⟨q1, q2, q3⟩ := argsIn_ps h2
    have key : (∀ k, Value.pointer (some ⟨k, 0, none⟩) ∈ p1 → k ∈ b1) ∧ (p.boxes.all (fun cs => cs.all isVal) = true → ∀ k ∈ b1, Value.pointer (some ⟨k, 0, none⟩) ∈ p1) ∧ (isMov p = false → m1 = []) := by
      cases p with
      | cell cc =>
        obtain ⟨rfl, rfl, hc⟩ := h1
        exact ⟨fun k hk => (by cases hk), fun _ k hk => (by cases hk), fun hm => cellsOut_vals hc (by simpa [isMov] using hm)⟩
      | agg cs =>
        obtain ⟨rfl, rfl, us, _, hc⟩ := h1
        exact ⟨fun k hk => (by cases hk), fun _ k hk => (by cases hk), fun hm => cellsOut_vals hc (by simpa [isMov] using hm)⟩
      | box cs =>
        obtain ⟨rfl, rfl, hc⟩ := h1
        obtain ⟨a1, a2⟩ := varOut_ps hc
        exact ⟨fun k hk => a1 k (List.mem_singleton.1 hk), fun hv k hk => List.mem_singleton.2 (a2 (by simpa [PSh.boxes] using hv) k hk), fun _ => rfl⟩
      | fn f ll =>
        obtain ⟨_, rfl, hc⟩ := h1
        obtain ⟨a1, a2⟩ := varsOut_ps hc
        exact ⟨a1, a2, fun _ => rfl⟩
    obtain ⟨k1, k2, k3⟩ := key
    refine ⟨fun k hk => ?_, fun hv k hk => ?_, fun hm => ?_⟩
    · rcases List.mem_append.1 hk with hk | hk
      · exact List.mem_append_left _ (k1 k hk)
      · exact List.mem_append_right _ (q1 k hk)
    · rw [List.flatMap_cons, List.all_append, Bool.and_eq_true] at hv
      rcases List.mem_append.1 hk with hk | hk
      · exact List.mem_append_left _ (k2 hv.1 k hk)
      · exact List.mem_append_right _ (q2 hv.2 k hk)
    · rw [List.any_cons, Bool.or_eq_false_iff] at hm
      rw [k3 hm.1, q3 hm.2]; rfl
theorem payx_out {A : Type} : ∀ (ms : List (Nat × Ty)) (x : A) (q : PayM ms), PayX.out ms (PayX.mk ms x q) = x
  | [], _, _ => rfl
  | _ :: ms, x, q => payx_out ms x q.2
theorem payx_ms {A : Type} : ∀ (ms : List (Nat × Ty)) (x : A) (q : PayM ms), PayX.ms ms (PayX.mk ms x q) = q
  | [], _, _ => rfl
  | _ :: ms, x, q => by
    show (q.1, PayX.ms ms (PayX.mk ms x q.2)) = q
    rw [payx_ms ms x q.2]
    rfl
theorem memBlocks_ex {h : Array Obj} {SA : Nat → Prop} {SF : Loc → Prop} {t : Ty} {et : Nat} {bs : List (Option (List t.den))} (M : MemRep h SA SF t et bs) : ∃ b, MemBlocks SF t et bs b ∧ ∀ g ∈ b, g < h.size := by
  classical
  have hlt : ∀ g, (∃ k xs C, bs[k]? = some (some xs) ∧ SF (.m et (k + 1) g C)) → g < h.size := fun g ⟨k, xs, C, h1, h2⟩ => by
    rcases M.ent k xs h1 with ⟨_, h3⟩ | ⟨g', C', cur, h3, h4, _⟩
    · exact absurd h2 (h3 g C)
    · obtain ⟨rfl, rfl⟩ := M.one _ _ _ _ _ h2 h3
      exact (Array.getElem?_eq_some_iff.1 h4).1
  refine ⟨(List.range h.size).filter fun g => decide (∃ k xs C, bs[k]? = some (some xs) ∧ SF (.m et (k + 1) g C)), ⟨List.Nodup.sublist List.filter_sublist List.nodup_range, fun g => ?_⟩, fun g hg => ?_⟩
  · rw [List.mem_filter, decide_eq_true_eq, List.mem_range]
    exact ⟨fun h => h.2, fun h => ⟨hlt g h, h⟩⟩
  · exact List.mem_range.1 (List.mem_filter.1 hg).1
/-- The arenas as they are handed back. -/
theorem memPay_sound (H : RelB c β SF e a w) {v : Env} (hv : ∀ o t et bs, v.obj o = some (.mem t et bs) → e.obj o = some (.mem t et bs)) : ∀ {ms : List (Nat × Ty)} {pm : PayM ms}, memPay v ms = some pm → (memNames ms).Nodup →
    ∃ b, MemsOut w c.SA SF ms pm b ∧ b.Nodup ∧ ∀ g ∈ b, ∃ t et bs, an et ∈ memNames ms ∧ e.obj (an et) = some (.mem t et bs) ∧ Owns SF β (an et) (.mem t et bs) g
  | [], _, h, _ => by cases h; exact ⟨[], rfl, List.nodup_nil, fun g hg => (by cases hg)⟩
  | p :: ms, pm, h, hnd => by
    simp only [memPay] at h
    split at h
    · rename_i bs q h1 h2
      cases h
      obtain ⟨n1, n2⟩ := List.nodup_cons.1 hnd
      have ho := hv _ _ _ _ (arena_obj h1)
      have M := (H.objs _ _ ho).2
      obtain ⟨b1, k1, _⟩ := memBlocks_ex M
      obtain ⟨b2, q1, q2, q3⟩ := memPay_sound H hv h2 n2
      refine ⟨b1 ++ b2, ⟨b1, b2, rfl, M, k1, q1⟩, List.nodup_append.2 ⟨k1.1, q2, fun x hx y hy hxy => ?_⟩, fun g hg => ?_⟩
      · subst hxy
        obtain ⟨t, et, bs', r1, r2, r3⟩ := q3 x hy
        exact H.inj _ _ _ _ x (fun h => n1 (show an p.1 ∈ memNames ms by rw [h]; exact r1)) ho r2 ((k1.2 x).1 hx) r3
      · rcases List.mem_append.1 hg with hg | hg
        · exact ⟨_, _, _, List.mem_cons_self .., ho, (k1.2 g).1 hg⟩
        · obtain ⟨t, et, bs', r1, r2, r3⟩ := q3 g hg
          exact ⟨t, et, bs', List.mem_cons_of_mem _ r1, r2, r3⟩
    · cases h
theorem finish_sound (HT : TOk P T) {e0 : Env} (H0 : RelB c β SF e0 a w) {fn : Func} {s : Sig} {r : s.Out} (h : finish T fn s e0 = some r) {p : Pay s.inl} {vs ps : List Value} {bs m1 m2 : List Nat} {N0 : Loc → Prop} (hargs : ArgsIn c.w0 c.SA N0 s.ins p vs ps bs m1) (hm2 : s.mems = [] → m2 = [])
    (hbx : (hasMov s || !(s.mems.isEmpty)) = true → s.boxes.all (fun cs => cs.all isVal) = true)
    (hbor : ∀ k, c.Bor k ↔ k ∈ bs ++ (m1 ++ m2)) (hS0 : c.S0 = N0) (hpin : ∀ s' ∈ boxSlots 0 s.ins, a.tmps.getD s' undef = vs.getD s' undef) :
    ∃ v SF' us b1 b2, (results fn a.tmps).run P w = .ok v w ∧ OutOK c.w0 c.SA N0 bs (m1 ++ m2) ps s r v w SF' us b1 b2 := by
  have hpre : ∃ SF1, RelB c β SF1 (cond s.mems.isEmpty e0 (e0.puts (absSlots e0 (resAbs fn.results.toList s.outs)))) a w := by
    cases s.mems.isEmpty with
    | true => exact ⟨SF, H0⟩
    | false =>
      obtain ⟨SF1, h1, _⟩ := absSlots_sound (c := c) (β := β) (a := a) (w := w) (resAbs fn.results.toList s.outs) ⟨fun _ _ h => h, fun _ _ h => h⟩ H0
      exact ⟨SF1, h1⟩
  obtain ⟨SF, H⟩ := hpre
  unfold finish at h
  simp only at h
  generalize (cond s.mems.isEmpty e0 (e0.puts (absSlots e0 (resAbs fn.results.toList s.outs)))) = e at h H
  split at h
  · rename_i os hos
    split at h
    · rename_i p1 zs1 ms1 p2 zs2 ms2 pm h1 h2 h3
      obtain ⟨hc, hr⟩ := ite_some h
      clear h
      cases hr
      simp only [Bool.and_eq_true, Bool.not_eq_true', List.any_eq_false, Bool.not_eq_true] at hc
      obtain ⟨hnd0, hdj⟩ := hc
      have hnd0 := nodupB_iff hnd0
      obtain ⟨hnd, hndm, hdm⟩ := List.nodup_append.1 hnd0
      have hps : ps = os.map β := lent_sound H hargs (fun s' hs => by rw [hpin s' hs]; rfl) hos
      obtain ⟨z1, m1'⟩ := retVars_fzn HT H h1
      obtain ⟨z2, m2'⟩ := retBoxes_fzn H h2
      obtain ⟨SF', ez, hS, FZ, HZ, q4, q5⟩ := freeze_list (zs := zs1 ++ zs2) (Frz.refl e) H (fun o ho => (List.mem_append.1 ho).elim (z1 o) (z2 o))
      have K : Keeps e ez (zs1 ++ zs2) (ms1 ++ ms2) := ⟨q4, fun o ho => q5 o fun hz => by
        have := hdj o ho
        rw [memN_iff.2 hz] at this
        cases this⟩
      obtain ⟨us, k1, k2⟩ := retVars_sound HT H hS HZ h1 (K.sub (fun o ho => List.mem_append_left _ ho) (fun o ho => List.mem_append_left _ ho))
      have k3 := retBoxes_sound H hS HZ h2 (K.sub (fun o ho => List.mem_append_right _ ho) (fun o ho => List.mem_append_right _ ho))
      obtain ⟨b3, k4, k5, k6⟩ := memPay_sound HZ (v := e) (fun o t et bs ho => (FZ.objs _ _ ho).elim id fun ⟨_, _, _, _, h, _⟩ => by cases h) h3 hndm
      obtain ⟨x1, x2, x3⟩ := argsIn_ps hargs
      obtain ⟨y1, y2⟩ := varsOut_ps k3
      have hobj : ∀ o ∈ ms1 ++ ms2, ∃ ov, ez.obj o = some ov ∧ ov.st ≠ 1 ∧ ov.flat := fun o ho => by
        rw [K.2 o ho]
        rcases List.mem_append.1 ho with ho | ho
        · obtain ⟨ov, a1, a2, a3⟩ := m1' o ho; exact ⟨ov, a1, by omega, a3⟩
        · obtain ⟨ov, a1, a2, a3⟩ := m2' o ho; exact ⟨ov, a1, by omega, a3⟩
      have hN0 : (ms1.flatMap (blk β) ++ ms2.flatMap (blk β)).Nodup := by
        rw [← List.flatMap_append]
        exact blks_nodup H hnd fun o ho => by
          obtain ⟨ov, a1, _, a3⟩ := hobj o ho
          rw [K.2 o ho] at a1
          exact ⟨ov, a1, a3⟩
      have hap : ∀ k ∈ b3, ∀ o ∈ ms1 ++ ms2, k ∉ blk β o := fun k hk o ho hb => by
        obtain ⟨t, et, bs', r1, r2, r3⟩ := k6 k hk
        obtain ⟨ov, a1, _, a3⟩ := hobj o ho
        exact HZ.inj o (an et) ov _ k (fun h => hdm o ho _ r1 h) a1 r2 (Owns.of a3 (blk_mem.1 hb)) r3
      have hN : ((ms1.flatMap (blk β) ++ b3) ++ ms2.flatMap (blk β)).Nodup := by
        have : ((ms1.flatMap (blk β) ++ b3) ++ ms2.flatMap (blk β)).Perm ((ms1.flatMap (blk β) ++ ms2.flatMap (blk β)) ++ b3) := by
          rw [List.append_assoc, List.append_assoc]
          exact List.Perm.append_left _ List.perm_append_comm
        refine this.nodup_iff.2 (List.nodup_append.2 ⟨hN0, k5, fun x hx y hy hxy => ?_⟩)
        subst hxy
        rw [← List.flatMap_append] at hx
        obtain ⟨o, ho, hb⟩ := List.mem_flatMap.1 hx
        exact hap x hy o ho hb
      have hst2 : ∀ (ov : OV) (o k : Nat), ez.obj o = some ov → ov.st ≠ 1 → Owns SF' β o ov k → k < w.heap.size ∧ ((ov.st = 2 ∧ k ∈ bs ++ (m1 ++ m2)) ∨ c.w0.heap.size ≤ k) := fun ov o k ho hs hk => by
        obtain ⟨a3, a4⟩ := HZ.own o ov k ho hk
        refine ⟨a3, ?_⟩
        rcases a4 with a4 | a4 | a4
        · exact .inr a4.2.1
        · exact absurd a4.1 hs
        · exact a4.2.elim (fun h => .inl ⟨a4.1, (hbor k).1 h⟩) fun h => .inr h.1
      have hgiv : (hasMov s || !(s.mems.isEmpty)) = true → ∀ k ∈ ms1.flatMap (blk β) ++ b3, k ∈ bs ++ (m1 ++ m2) → k ∈ m1 ++ m2 := fun hh k hk hb => by
        rcases List.mem_append.1 hb with h | h
        · have hb2 := y1 k (by rw [← hps]; exact x2 (hbx hh) k h)
          exact ((List.nodup_append.1 hN).2.2 k hk k hb2 rfl).elim
        · exact h
      refine ⟨retOf us, SF', us, ms1.flatMap (blk β) ++ b3, ms2.flatMap (blk β), results_run k1, H.os, H.tape, H.output, H.size, fun k hk hb => H.old k hk (fun h => hb ((hbor k).1 h)), HZ.sf, fun l hl => HZ.mu l (by rw [hS0]; exact hl), ⟨_, _, rfl, ?_, ?_⟩, rfl, ?_, fun k hk => ?_, fun k hk => ?_, fun k hk => ?_, hN⟩
      · rw [payx_out, split_append]; exact k2
      · rw [payx_ms]; exact k4
      · rw [payx_out, split_append, hps]; exact k3
      · rcases List.mem_append.1 hk with hk' | hk'
        · obtain ⟨o, ho, hb⟩ := List.mem_flatMap.1 hk'
          obtain ⟨ov, a1, a2, a3⟩ := m1' o ho
          rw [← K.2 o (List.mem_append_left _ ho)] at a1
          obtain ⟨q1, q2⟩ := hst2 ov o k a1 (by omega) (Owns.of a3 (blk_mem.1 hb))
          refine ⟨?_, q1⟩
          rcases q2 with ⟨q2, q3⟩ | q2
          · rcases a2 with a2 | ⟨a2, _⟩
            · omega
            · exact .inr (hgiv a2 k hk q3)
          · exact .inl q2
        · obtain ⟨t, et, bs', r1, r2, r3⟩ := k6 k hk'
          obtain ⟨q1, q2⟩ := hst2 _ _ k r2 (by simp [OV.st]) r3
          refine ⟨?_, q1⟩
          rcases q2 with ⟨q2, q3⟩ | q2
          · refine .inr (hgiv ?_ k hk q3)
            cases hms : s.mems with
            | nil => rw [hms] at r1; cases r1
            | cons _ _ => simp
          · exact .inl q2
      · have hl : ∃ ov o, ez.obj o = some ov ∧ ov.st ≠ 1 ∧ Owns SF' β o ov k := by
          rcases List.mem_append.1 hk with hk | hk
          · rcases List.mem_append.1 hk with hk | hk
            · obtain ⟨o, ho, hb⟩ := List.mem_flatMap.1 hk
              obtain ⟨ov, a1, a2, a3⟩ := hobj o (List.mem_append_left _ ho)
              exact ⟨ov, o, a1, a2, Owns.of a3 (blk_mem.1 hb)⟩
            · obtain ⟨t, et, bs', r1, r2, r3⟩ := k6 k hk
              exact ⟨_, _, r2, by simp [OV.st], r3⟩
          · obtain ⟨o, ho, hb⟩ := List.mem_flatMap.1 hk
            obtain ⟨ov, a1, a2, a3⟩ := hobj o (List.mem_append_right _ ho)
            exact ⟨ov, o, a1, a2, Owns.of a3 (blk_mem.1 hb)⟩
        obtain ⟨ov, o, a1, a2, a3⟩ := hl
        exact (HZ.loose a1 a2 a3).2.1
      · obtain ⟨o, ho, hb⟩ := List.mem_flatMap.1 hk
        obtain ⟨ov, a1, a2, a3⟩ := hobj o (List.mem_append_right _ ho)
        obtain ⟨q1, q2⟩ := hst2 ov o k a1 a2 (Owns.of a3 (blk_mem.1 hb))
        refine ⟨q1, ?_⟩
        rcases q2 with ⟨_, q3⟩ | q2
        · rcases List.mem_append.1 q3 with h | h
          · exact .inl h
          · cases hm : (hasMov s || !(s.mems.isEmpty)) with
            | false =>
              simp only [Bool.or_eq_false_iff, Bool.not_eq_false'] at hm
              rw [x3 hm.1, hm2 (List.isEmpty_iff.1 hm.2)] at h
              cases h
            | true => exact .inl (x1 k (by rw [hps]; exact y2 (hbx hm) k hk))
        · exact .inr q2
    · cases h
  · cases h
/-- The blocks that are handed in are there. -/
theorem cellsOut_lt {w : World} {SA : Nat → Prop} {SF : Loc → Prop} : ∀ {l : List CSh} {p : Pay l} {vs : List Value} {bs : List Nat}, CellsOut w SA SF l p vs bs → ∀ k ∈ bs, k < w.heap.size
  | [], _, _, _, ⟨_, h⟩, k, hk => by subst h; cases hk
  | .val _ _ :: l, _, _, _, ⟨_, _, _, _, h⟩, k, hk => cellsOut_lt h k hk
  | .row _ _ _ :: l, _, _, _, ⟨v, _, _, _, _, rfl, h1, _, h⟩, k, hk => by
    rcases List.mem_append.1 hk with hk | hk
    · have hv : ownB v = some k := by simpa using hk
      rw [ownB_slice (owns_slice h1)] at hv
      exact (h1.lt k hv).2
    · exact cellsOut_lt h k hk
theorem varOut_lt {w : World} {SA : Nat → Prop} {SF : Loc → Prop} {cs : List CSh} {p : Pay cs} {v : Value} {bs : List Nat} (h : VarOut w SA SF cs p v bs) : ∀ k ∈ bs, k < w.heap.size := by
  obtain ⟨g, arr, et, b, _, h1, h2, rfl⟩ := h
  intro k hk
  rcases List.mem_cons.1 hk with rfl | hk
  · exact (Array.getElem?_eq_some_iff.1 h1).1
  · exact cellsOut_lt h2 k hk
theorem varsOut_lt {w : World} {SA : Nat → Prop} {SF : Loc → Prop} : ∀ {l : List (List CSh)} {p : Pay l.flatten} {vs : List Value} {bs : List Nat}, VarsOut w SA SF l p vs bs → ∀ k ∈ bs, k < w.heap.size
  | [], _, _, _, ⟨_, h⟩, k, hk => by subst h; cases hk
  | _ :: l, _, _, _, ⟨_, _, _, _, _, rfl, h1, h2⟩, k, hk => (List.mem_append.1 hk).elim (varOut_lt h1 k) (varsOut_lt h2 k)
theorem argsIn_lt {w : World} {SA : Nat → Prop} {N0 : Loc → Prop} : ∀ {l : List PSh} {q : Pay (l.flatMap PSh.flat)} {vs ps : List Value} {bs ms : List Nat}, ArgsIn w SA N0 l q vs ps bs ms → ∀ k ∈ bs ++ ms, k < w.heap.size
  | [], _, _, _, _, _, ⟨_, _, h, h'⟩, k, hk => by subst h h'; cases hk
  | p :: l, _, _, _, _, _, ⟨_, _, _, _, b1, b2, m1, m2, _, _, rfl, rfl, h1, h2⟩, k, hk => by
    have hk : k ∈ b1 ++ m1 ∨ k ∈ b2 ++ m2 := by
      simp only [List.mem_append] at hk ⊢
      rcases hk with (h | h) | (h | h)
      · exact .inl (.inl h)
      · exact .inr (.inl h)
      · exact .inl (.inr h)
      · exact .inr (.inr h)
    rcases hk with hk | hk
    · cases p with
      | cell c => obtain ⟨_, rfl, h⟩ := h1; exact cellsOut_lt h k hk
      | agg cs => obtain ⟨_, rfl, us, _, h⟩ := h1; exact cellsOut_lt h k hk
      | box cs => obtain ⟨_, rfl, h⟩ := h1; exact varOut_lt h k (by simpa using hk)
      | fn f l => obtain ⟨_, rfl, h⟩ := h1; exact varsOut_lt h k (by simpa using hk)
    · exact argsIn_lt h2 k hk
theorem memsOut_nil {w : World} {SA : Nat → Prop} {SF : Loc → Prop} : ∀ {ms : List (Nat × Ty)} {q : PayM ms} {b : List Nat}, MemsOut w SA SF ms q b → ms = [] → b = []
  | [], _, _, h, _ => h
  | _ :: _, _, _, _, h => by cases h
theorem memsOut_lt {w : World} {SA : Nat → Prop} {SF : Loc → Prop} : ∀ {ms : List (Nat × Ty)} {q : PayM ms} {b : List Nat}, MemsOut w SA SF ms q b → ∀ k ∈ b, k < w.heap.size
  | [], _, _, h, k, hk => by cases h; cases hk
  | p :: ms, q, _, ⟨b1, b2, rfl, M, hb, h⟩, k, hk => by
    rcases List.mem_append.1 hk with hk | hk
    · obtain ⟨j, xs, C, h1, h2⟩ := (hb.2 k).1 hk
      rcases M.ent j xs h1 with ⟨_, h3⟩ | ⟨g', C', cur, h3, h4, _⟩
      · exact absurd h2 (h3 k C)
      · obtain ⟨rfl, rfl⟩ := M.one _ _ _ _ _ h2 h3
        exact (Array.getElem?_eq_some_iff.1 h4).1
    · exact memsOut_lt h k hk
/-- The arenas at the beginning. -/
theorem memObjs_at {w : World} {SA : Nat → Prop} {SF : Loc → Prop} : ∀ {ms : List (Nat × Ty)} {q : PayM ms} {b : List Nat} {o : Nat} {ov : OV}, MemsOut w SA SF ms q b → look (memObjs ms q) o = some ov →
    ∃ t et bs, ov = .mem t et bs ∧ o = an et ∧ MemRep w.heap SA SF t et bs ∧ ∀ g, (∃ k xs C, bs[k]? = some (some xs) ∧ SF (.m et (k + 1) g C)) → g ∈ b
  | [], _, _, _, _, _, h => by cases h
  | p :: ms, q, _, o, ov, ⟨b1, b2, rfl, M, hb, h⟩, hl => by
    simp only [memObjs, look_cons] at hl
    split at hl
    · rename_i ho
      cases hl
      exact ⟨_, _, _, rfl, ho.symm, M, fun g hg => List.mem_append_left _ ((hb.2 g).2 hg)⟩
    · obtain ⟨t, et, bs, h1, h2, h3, h4⟩ := memObjs_at h hl
      exact ⟨t, et, bs, h1, h2, h3, fun g hg => List.mem_append_right _ (h4 g hg)⟩
theorem memObjs_inj {w : World} {SA : Nat → Prop} {SF : Loc → Prop} {β : Nat → Value} : ∀ {ms : List (Nat × Ty)} {q : PayM ms} {b : List Nat} {o o' g : Nat} {ov ov' : OV}, MemsOut w SA SF ms q b → b.Nodup → look (memObjs ms q) o = some ov → look (memObjs ms q) o' = some ov' →
    Owns SF β o ov g → Owns SF β o' ov' g → o = o'
  | [], _, _, _, _, _, _, _, _, _, h, _, _, _ => by cases h
  | p :: ms, q, _, o, o', g, ov, ov', ⟨b1, b2, rfl, M, hb, h⟩, hnd, hl, hl', hg, hg' => by
    obtain ⟨n1, n2, n3⟩ := List.nodup_append.1 hnd
    have key : ∀ {o : Nat} {ov : OV}, look (memObjs ms q.2) o = some ov → Owns SF β o ov g → g ∈ b2 := fun hl hg => by
      obtain ⟨t, et, bs, rfl, rfl, _, h4⟩ := memObjs_at h hl
      exact h4 g hg
    simp only [memObjs, look_cons] at hl hl'
    split at hl <;> split at hl'
    · rename_i h1 h2; rw [← h1, ← h2]
    · cases hl
      exact (n3 g ((hb.2 g).2 hg) g (key hl' hg') rfl).elim
    · cases hl'
      exact (n3 g ((hb.2 g).2 hg') g (key hl hg) rfl).elim
    · exact memObjs_inj h n2 hl hl' hg hg'
theorem bodyG_sound (HT : TOk P T) {D : Den} {n : Nat} {G : Glob} (hcall : ∀ (cx : Cx) (c : Ctx), cx.T = T → cx.D = D → GlobOK G c.w0.heap c.Bor → CallSound P cx c) (hm : P.follows .mixedOrders = true) {f : FuncId} {fn : Func} (hf : P.funcs[f]? = some fn) {s : Sig} {R : Type} {g : s.Out → R}
    {w : World} {SA : Nat → Prop} {N0 : Loc → Prop} {vs ps : List Value} {bs ms : List Nat} {p : s.In} {q : R} (hq : bodyG T D n fn s g p = some q) (hin : InOK G w SA N0 s p vs ps bs ms) :
    Calls P f vs.toArray w fun e w' => ∃ q', g q' = q ∧ ∃ v SF us b1 b2, e = .returned v ∧ OutOK w SA N0 bs ms ps s q' v w' SF us b1 b2 := by
  obtain ⟨m1, m2, rfl, hargs, hmems⟩ := hin.args
  simp only [bodyG, Bool.cond_eq_ite] at hq
  split at hq
  · rename_i hok
    simp only [sigOk, Bool.and_eq_true, Nat.ble_eq] at hok
    have hok1 : ∀ p ∈ s.ins, cntArg p ≤ 64 := fun p hp => Nat.le_of_ble_eq_true (List.all_eq_true.1 hok.1 p hp)
    have hbx : (hasMov s || !(s.mems.isEmpty)) = true → s.boxes.all (fun cs => cs.all isVal) = true := fun h => by
      have := hok.2.2
      rw [h] at this
      simpa using this
    split at hq
    · rename_i code hcode
      refine calls_of_wp hf hcode ?_
      obtain ⟨hlen, β, k1, k2⟩ := inEnv_sound (i := 0) hargs (List.Nodup.sublist (List.Sublist.append_left (List.sublist_append_left _ _) _) hin.nodup) hok1
      have hlen : vs.length = s.ins.length := hlen
      let c : Ctx := ⟨w, SA, fun k => k ∈ bs ++ (m1 ++ m2), fn.ntmps, (boxSlots 0 s.ins).map fun i => (i, vs.getD i undef), N0⟩
      have hsz : (vs.toArray ++ Array.replicate (fn.ntmps - vs.toArray.size) undef).size = fn.ntmps := by
        simp only [Array.size_append, List.size_toArray, Array.size_replicate]
        omega
      have hget : ∀ i, (vs.toArray ++ Array.replicate (fn.ntmps - vs.toArray.size) undef).getD i undef = vs.getD i undef := fun i => by
        rw [List.size_toArray]; exact tmps_get
      have hlt : ∀ k ∈ bs ++ (m1 ++ m2), k < w.heap.size := fun k hk => by
        rw [← List.append_assoc] at hk
        exact (List.mem_append.1 hk).elim (argsIn_lt hargs k) (memsOut_lt hmems k)
      have hl1 : ∀ k, k ∈ bs ++ m1 → k ∈ bs ++ (m1 ++ m2) := fun k hk => by rw [← List.append_assoc]; exact List.mem_append_left _ hk
      have hl2 : ∀ k, k ∈ m2 → k ∈ bs ++ (m1 ++ m2) := fun k hk => by rw [← List.append_assoc]; exact List.mem_append_right _ hk
      have hnd2 : ((bs ++ m1) ++ m2).Nodup := by rw [List.append_assoc]; exact hin.nodup
      have hobj : ∀ o ov, (inAll s p).obj o = some ov → look (inEnv 0 s.ins (PayX.out _ p)).objs o = some ov ∨ look (memObjs s.mems (PayX.ms _ p)) o = some ov := fun o ov h => look_append _ _ _ _ h
      have hblk : ∀ o ov g, look (inEnv 0 s.ins (PayX.out _ p)).objs o = some ov → Owns N0 β o ov g → g ∈ bs ++ m1 := fun o ov g ho hg => (k2.mem o ov ho).2.2.2.2.1 g (hg.flat (k2.mem o ov ho).2.2.2.2.2.2)
      have hblm : ∀ o ov g, look (memObjs s.mems (PayX.ms _ p)) o = some ov → Owns N0 β o ov g → g ∈ m2 := fun o ov g ho hg => by
        obtain ⟨t, et, bs', rfl, rfl, _, h4⟩ := memObjs_at hmems ho
        exact h4 g hg
      have H : RelB c β N0 (inAll s p) ⟨vs.toArray ++ Array.replicate (fn.ntmps - vs.toArray.size) undef, []⟩ w := by
        refine ⟨rfl, rfl, rfl, Nat.le_refl _, fun _ _ _ => rfl, hin.sa, hlt, fun k hk => (hin.n0 k hk).elim, fun l hl => hl, rfl, hsz, fun pr hpr => ?_, fun i sv hs => ?_, fun o ov ho => ?_, fun o ov g ho hg => ?_, fun o o' ov ov' g hne h h' hg hg' => ?_⟩
        · obtain ⟨i, hi, rfl⟩ := List.mem_map.1 hpr
          exact hget i
        · obtain ⟨a1, a2, a3, _⟩ := k1 i sv hs
          refine ⟨show i < fn.ntmps by omega, ?_⟩
          rw [hget]
          rw [Nat.sub_zero] at a3
          exact a3
        · rcases hobj o ov ho with ho | ho
          · exact (k2.mem o ov ho).2.2.2.1
          · obtain ⟨t, et, bs', rfl, rfl, M, _⟩ := memObjs_at hmems ho
            exact ⟨rfl, M⟩
        · rcases hobj o ov ho with ho | ho
          · have h5 := hl1 g (hblk o ov g ho hg)
            exact ⟨hlt g h5, .inr (.inr ⟨(k2.mem o ov ho).2.2.1, .inl h5⟩)⟩
          · have h5 := hl2 g (hblm o ov g ho hg)
            obtain ⟨t, et, bs', rfl, _⟩ := memObjs_at hmems ho
            exact ⟨hlt g h5, .inr (.inr ⟨rfl, .inl h5⟩)⟩
        · rcases hobj o ov h with h | h <;> rcases hobj o' ov' h' with h' | h'
          · exact hne (k2.inj o o' ov ov' g h h' (hg.flat (k2.mem o ov h).2.2.2.2.2.2) (hg'.flat (k2.mem o' ov' h').2.2.2.2.2.2))
          · exact (List.nodup_append.1 hnd2).2.2 g (hblk o ov g h hg) g (hblm o' ov' g h' hg') rfl
          · exact (List.nodup_append.1 hnd2).2.2 g (hblk o' ov' g h' hg') g (hblm o ov g h hg) rfl
          · exact hne (memObjs_inj hmems (List.nodup_append.1 hnd2).2.1 h h' hg hg')
      have F : Fits P ⟨T, D, n, fn.ntmps, boxSlots 0 s.ins, memNames s.mems⟩ c := ⟨HT, hcall _ c rfl rfl hin.glob, rfl, by simp [c, Function.comp_def]⟩
      refine ev_sound F hm code _ _ _ _ q hq _ (fun x e' hx a' w' H' => ?_) _ _ ⟨β, N0, H⟩
      have hfin : (finish T fn s e').map g = some q → a'.defers = [] ∧ ∃ v, (results fn a'.tmps).run P w' = .ok v w' ∧ ∃ q', g q' = q ∧ ∃ v1 SF us b1 b2, Ending.returned v = .returned v1 ∧ OutOK w SA N0 bs (m1 ++ m2) ps s q' v1 w' SF us b1 b2 := fun hx => by
        obtain ⟨q', hx, hgq⟩ := Option.map_eq_some_iff.1 hx
        obtain ⟨β', SF', H'⟩ := H'
        obtain ⟨v, SF1, us, b1, b2, h1, h2⟩ := finish_sound HT H' hx hargs (memsOut_nil hmems) hbx (fun k => Iff.rfl) rfl (fun i hi => H'.pins (i, vs.getD i undef) (List.mem_map.2 ⟨i, hi, rfl⟩))
        exact ⟨H'.nd, v, h1, q', hgq, v, SF1, us, b1, b2, rfl, h2⟩
      cases x with
      | nrm => exact hfin hx
      | ret => exact hfin hx
      | ex k => cases hx
    · cases hq
  · cases hq
theorem body_eq {T : Types} {D : Den} {n : Nat} {fn : Func} {s : Sig} {p : s.In} : body T D n fn s p = bodyG T D n fn s id p := by
  unfold body bodyG
  simp only [Option.map_id, id]
theorem body_sound (HT : TOk P T) {D : Den} {n : Nat} {G : Glob} (hcall : ∀ (cx : Cx) (c : Ctx), cx.T = T → cx.D = D → GlobOK G c.w0.heap c.Bor → CallSound P cx c) (hm : P.follows .mixedOrders = true) {f : FuncId} {fn : Func} (hf : P.funcs[f]? = some fn) {s : Sig} :
    CallOK P G f ⟨s, body T D n fn s⟩ := by
  intro w SA N0 vs ps bs ms p q hq hin
  rw [show (FD.mk s (body T D n fn s)).run p = bodyG T D n fn s id p from body_eq] at hq
  refine (bodyG_sound HT hcall hm hf hq hin).mono ?_
  rintro e w' ⟨q', rfl, h⟩
  exact h
end
end Go.Px

/- Calls: the caller's side. -/
namespace Go.Px
open Go

section
variable {P : Program} {cx : Cx} {c : Ctx} {β : Nat → Value} {SF : Loc → Prop} {e : Env} {a : Act} {w : World} {ve : Env} [Sub ve e]
/-- The blocks of objects that are lent. -/
def Lent (e : Env) (β : Nat → Value) (SF : Loc → Prop) (lent : List Nat) (k : Nat) : Prop := ∃ o ∈ lent, ∃ ov, e.obj o = some ov ∧ Owns SF β o ov k
/-- What the callee may read. -/
def Reads (c : Ctx) (e : Env) (β : Nat → Value) (SF : Loc → Prop) (fresh : Bool) (lent : List Nat) : Nat → Prop := fun k => (fresh = false ∧ c.SA k) ∨ SF k ∨ Lent e β SF lent k
/-- Where the entries of arenas lie. -/
def arF (SF : Loc → Prop) : Loc → Prop
  | .b _ => False
  | .m et k g C => SF (.m et k g C)
theorem arF.to {SA : Nat → Prop} {f fl : Bool} {S' : Nat → Prop} : Mem' (S2 SA SF f) (S2 S' (arF SF) fl) := fun _ _ _ _ h => .inl (h.elim id fun h => h.2.elim)
theorem S2.lend {SA S' : Nat → Prop} {f : Bool} (h1 : ∀ k : Nat, SF k → S' k) (h2 : f = false → ∀ k, SA k → S' k) : ∀ l, S2 SA SF f l → S2 S' (arF SF) false l
  | .b k, hk => .inr ⟨rfl, hk.elim (h1 k) fun ⟨p, q⟩ => h2 p k q⟩
  | .m .., hk => .inl (hk.elim id fun h => h.2.elim)
theorem in_rep {h : Array Obj} {SA S' : Nat → Prop} {t : Ty} {vs : List Value} {x : t.den} {f fl : Bool} (hfl : (!fl || !(hasSl t)) = true) (h1 : ∀ k : Nat, SF k → S' k) (h2 : (f || !(hasSl t)) = false → ∀ k, SA k → S' k) (H : Rep h (S2 SA SF f) t vs x) :
    Rep h (S2 S' (arF SF) fl) t vs x := by
  cases hs : hasSl t with
  | false => exact Rep.noSl arF.to hs H
  | true =>
    rw [hs] at hfl h2
    have : fl = false := by simpa using hfl
    subst this
    exact Rep.mono (S2.lend h1 fun hf => h2 (by rw [hf]; rfl)) (fun _ _ => rfl) H
/-- A row, or a part of one, read as a datum. -/
theorem content_slice (H : RelB c β SF e a w) {x : Cell} {t : Ty} {xs : List t.den} {f : Bool} {v : Value} {S' : Nat → Prop} (h : content ve x = some ⟨t, xs, f⟩) (hx : ∀ t' y f', x ≠ .val t' y f') (hv : CellRep w.heap c.SA SF β x v)
    (h1 : ∀ k : Nat, SF k → S' k) (h2 : f = false → ∀ k, c.SA k → S' k) (h3 : ∀ k, Lent e β SF (cellNames x) k → S' k) : Rep w.heap (S2 S' (arF SF) false) (.slice t) [v] xs := by
  have hm : ∀ {ys : List t.den} {vs : List Value}, Chop (Rep w.heap (S2 c.SA SF f) t) ys vs → Chop (Rep w.heap (S2 S' (arF SF) false) t) ys vs := fun hc => hc.mono fun _ _ hr => Rep.mono (S2.lend h1 h2) (fun _ _ => rfl) hr
  unfold content at h
  split at h
  · exact absurd rfl (hx _ _ _)
  · rename_i o
    split at h
    · rename_i t' et xs' f' st ho
      cases h
      obtain ⟨rfl, A, N, C, hv⟩ := hv
      have hob := view_obj (e := e) ho
      obtain ⟨vs, ho, hch⟩ := H.objs _ _ hob
      rcases ho with ⟨g1, ⟨g2, g3⟩ | ⟨g, b0, cap, cur, g2, _, g3, g4, g5, g6, g7⟩⟩
      · exact ⟨none, 0, 0, by rw [g2], g3, Nat.le_refl _, .inl rfl⟩
      · refine ⟨_, _, _, by rw [g2], rfl, g4, .inr ⟨g, b0, cur, et, (0, 0), rfl, .inr ⟨rfl, h3 g ⟨o, by simp [cellNames], _, hob, show ownB (β o) = some g by rw [g2]; rfl⟩⟩, g3, ?_, ?_⟩⟩
        · exact Nat.le_trans (Nat.add_le_add_left (Nat.mul_le_mul_right _ g4) _) g6
        · rw [g7]; exact hm hch
    · cases h
  · rename_i o t' lo n
    split at h
    · rename_i t'' et xs' f' st ho
      split at h
      · rename_i hb
        have hb := Ty.eq_of_beq hb
        subst hb
        cases h
        obtain ⟨A, N, C, hβ, k1, k2, hv⟩ := hv
        have hob := view_obj (e := e) ho
        obtain ⟨vs, ho, hch⟩ := H.objs _ _ hob
        rw [hβ] at ho
        rcases ho with ⟨g1, ⟨g2, g3⟩ | ⟨g, b0, cap, cur, g2, _, g3, g4, g5, g6, g7⟩⟩
        · cases g2
          refine ⟨_, _, _, by rw [hv], ?_, by omega, .inl (by omega)⟩
          refine (len_cut (α := t.den) xs' lo (lo + n)).trans ?_
          omega
        · cases g2
          refine ⟨_, _, _, by rw [hv], ?_, by omega, ?_⟩
          · refine (len_cut (α := t.den) xs' lo (lo + n)).trans ?_
            omega
          · by_cases h0 : n = 0
            · exact .inl h0
            · rw [if_neg (by omega)]
              refine .inr ⟨g, b0 + lo * t.size, cur, et, (0, 0), ?_, .inr ⟨rfl, h3 g ⟨o, by simp [cellNames], _, hob, show ownB (β o) = some g by rw [hβ]; rfl⟩⟩, g3, ?_, ?_⟩
              · show some ((⟨g, b0, none⟩ : Addr).add (lo * t.size)) = _
                rw [Addr.add_mid]
              · rw [Nat.add_assoc, ← Nat.add_mul]
                exact Nat.le_trans (Nat.add_le_add_left (Nat.mul_le_mul_right _ (by omega)) _) g6
              · have hc := hm ((hch.take (lo + n)).drop lo)
                have e1 : ((cur.toList.drop b0).take ((lo + n) * t.size)).drop (lo * t.size) = (cur.toList.drop (b0 + lo * t.size)).take (n * t.size) := by
                  rw [List.drop_take, ← Nat.sub_mul, show lo + n - lo = n by omega, List.drop_drop]
                rw [← g7, List.take_take, Nat.min_eq_left (Nat.mul_le_mul_right _ k1), e1] at hc
                exact hc
      · cases h
    · cases h
  · cases h
theorem flat_size : ∀ t : Ty, (flat t).size = t.size
  | .int _ | .bool | .str | .err | .mp | .nil | .slice _ | .hdr _ _ => rfl
  | .cons a b => by simp only [flat, Ty.size, flat_size a, flat_size b]
theorem Chop.map' {α γ : Type} {R : List Value → α → Prop} {R' : List Value → γ → Prop} {g : α → γ} : ∀ {xs : List α} {vs : List Value}, (∀ x ∈ xs, ∀ c, R c x → R' c (g x)) → Chop R xs vs → Chop R' (xs.map g) vs
  | [], _, _, h => h
  | x :: xs, _, hR, ⟨c, r, e, h1, h2⟩ => ⟨c, r, e, hR x (List.mem_cons_self ..) c h1, Chop.map' (fun y hy => hR y (List.mem_cons_of_mem _ hy)) h2⟩
theorem seenOk_bare {v : Env} : ∀ {t : Ty} {x : t.den}, bareT t = true → seenOk v t x = true
  | .int _, _, _ => rfl
  | .bool, _, _ => rfl
  | .str, _, _ => rfl
  | .err, _, _ => rfl
  | .mp, _, _ => rfl
  | .nil, _, _ => rfl
  | .cons a b, x, h => by
    simp only [bareT, Bool.and_eq_true] at h
    simp only [seenOk, Bool.and_eq_true]
    exact ⟨seenOk_bare h.1, seenOk_bare h.2⟩
  | .slice t, xs, h => by
    simp only [bareT] at h
    simp only [seenOk, h, cond_true]
  | .hdr _ _, _, h => by cases h
theorem seenOk_slice {v : Env} {t : Ty} {xs : List t.den} (h : seenOk v (.slice t) xs = true) : ∀ y ∈ xs, seenOk v t y = true := fun y hy => by
  cases hb : bareT t with
  | true => exact seenOk_bare hb
  | false =>
    simp only [seenOk, hb, cond_false] at h
    exact List.all_eq_true.1 h y hy
/-- What arenas hold, read as a datum. -/
theorem seen_rep (H : RelB c β SF e a w) {S' : Nat → Prop} (h1 : ∀ k : Nat, SF k → S' k) : ∀ {t : Ty} {x : t.den} {cs : List Value} {S : Loc → Prop}, Rep w.heap S t cs x → seenOk ve t x = true → (∀ k : Nat, S k → S' k) ∧ (∀ et k g C, S (.m et k g C) → SF (.m et k g C)) → (∀ k, Lent e β SF (tyAr t) k → S' k) →
    Rep w.heap (S2 S' (arF SF) false) (flat t) cs (seen ve t x)
  | .int _, _, _, _, hr, _, _, _ => hr
  | .bool, _, _, _, hr, _, _, _ => hr
  | .str, _, _, _, hr, _, _, _ => hr
  | .err, _, _, _, hr, _, _, _ => hr
  | .mp, _, _, _, hr, _, _, _ => hr
  | .nil, _, _, _, hr, _, _, _ => hr
  | .cons a b, _, _, _, ⟨p, q, e1, g1, g2⟩, hok, h2, h3 => by
    simp only [seenOk, Bool.and_eq_true] at hok
    exact ⟨p, q, e1, seen_rep H h1 g1 hok.1 h2 (fun k ⟨o, ho, h⟩ => h3 k ⟨o, List.mem_append_left _ ho, h⟩), seen_rep H h1 g2 hok.2 h2 (fun k ⟨o, ho, h⟩ => h3 k ⟨o, List.mem_append_right _ ho, h⟩)⟩
  | .slice t, xs, _, S, ⟨p, n, q, e1, e2, e3, hrow⟩, hok, h2, h3 => by
    refine ⟨p, n, q, e1, (List.length_map ..).trans e2, e3, hrow.imp id fun ⟨g, off, arr, et, fr, f1, f2, f3, f4, f5⟩ => ⟨g, off, arr, et, fr, f1, .inr ⟨rfl, h2.1 g f2⟩, f3, by rw [flat_size]; exact f4, ?_⟩⟩
    rw [flat_size]
    exact Chop.map' (fun y hy c hr => seen_rep H h1 hr (seenOk_slice hok y hy) h2 h3) f5
  | .hdr et t, x, _, S, ⟨p, n, q, e1, e2, e3, hrow⟩, hok, h2, h3 => by
    simp only [seenOk] at hok
    simp only [seen]
    split at hok
    · rename_i bs hbs
      have hok2 : mok bs x = true ∧ ∀ y ∈ mval bs x, seenOk ve t y = true := by
        cases hb : bareT t with
        | true => simp only [hb, cond_true] at hok; exact ⟨hok, fun y hy => seenOk_bare hb⟩
        | false => simp only [hb, cond_false, Bool.and_eq_true] at hok; exact ⟨hok.1, fun y hy => List.all_eq_true.1 hok.2 y hy⟩
      clear hok
      obtain ⟨hok, hall⟩ := hok2
      obtain ⟨ho, M⟩ := arena_rep H hbs
      simp only [mok, Bool.or_eq_true, Bool.and_eq_true, Nat.beq_eq, Nat.ble_eq] at hok
      have hlen : ((mval bs x).map (seen ve t)).length = n := by
        rw [List.length_map]
        show (((mrow bs x.1).take (x.2.1 + x.2.2)).drop x.2.1).length = n
        rw [List.length_drop, List.length_take]
        clear hrow
        omega
      refine ⟨p, n, q, e1, hlen, e3, ?_⟩
      by_cases h0 : n = 0
      · exact .inl h0
      · rcases hrow with ⟨hz, _⟩ | ⟨g, C, rfl, hle, hS⟩
        · exact absurd hz h0
        · have hS : SF (.m et x.1 g C) := h2.2 _ _ _ _ hS
          obtain ⟨hlv, hlen⟩ := hok.resolve_left (by omega)
          obtain ⟨cur, hcur, q1, q2, q3, hch⟩ := M.hit hS hlv
          obtain ⟨j, hj, hjb⟩ := mlive_at hlv
          refine .inr ⟨g, C.1 + x.2.1 * t.size, cur, et, (0, 0), rfl, .inr ⟨rfl, h3 g ⟨an et, List.mem_cons_self .., _, ho, j, _, C, hjb, hj ▸ hS⟩⟩, hcur, ?_, ?_⟩
          · rw [flat_size, Nat.add_assoc, ← Nat.add_mul]
            exact Nat.le_trans (Nat.add_le_add_left (Nat.mul_le_mul_right _ (by omega)) _) q3
          · have hc := (hch.take (x.2.1 + x.2.2)).drop x.2.1
            have e4 : ((cur.toList.drop C.1).take ((x.2.1 + x.2.2) * t.size)).drop (x.2.1 * t.size) = (cur.toList.drop (C.1 + x.2.1 * t.size)).take (n * t.size) := by
              rw [List.drop_take, ← Nat.sub_mul, show x.2.1 + x.2.2 - x.2.1 = n by omega, List.drop_drop]
            rw [List.take_take, Nat.min_eq_left (Nat.mul_le_mul_right _ hlen), e4] at hc
            rw [flat_size]
            exact Chop.map' (fun y hy c hr => seen_rep H h1 hr (hall y hy) ⟨fun k hk => hk.elim (h1 k) fun h => (by cases h.1), fun _ _ _ _ h => h.elim id fun h => h.2.elim⟩ (fun k ⟨o, ho, h⟩ => h3 k ⟨o, List.mem_cons_of_mem _ ho, h⟩)) hc
    · cases hok
theorem loosen {h : Array Obj} {S' : Nat → Prop} {t : Ty} {vs : List Value} {x : t.den} {fl : Bool} (hfl : (!fl || !(hasSl t)) = true) (H : Rep h (S2 S' (arF SF) false) t vs x) : Rep h (S2 S' (arF SF) fl) t vs x := by
  cases fl with
  | false => exact H
  | true => exact Rep.noSl (S2.memF _) (by simpa using hfl) H
theorem argVal_rep (H : RelB c β SF e a w) {t : Ty} {fl : Bool} {x : Cell} {z : t.den} {fr ok : Bool} {ns : List Nat} {v : Value} {S' : Nat → Prop} (h : argCell ve (.val t fl) x = some (z, fr, ns, ok)) (hv : CellRep w.heap c.SA SF β x v) (hok : ok = true)
    (h1 : ∀ k : Nat, SF k → S' k) (h2 : fr = false → ∀ k, c.SA k → S' k) (h3 : ∀ k, Lent e β SF ns k → S' k) : Rep w.heap (S2 S' (arF SF) fl) t [v] z := by
  unfold argCell at h
  simp only at h
  obtain ⟨hfl, h'⟩ := ite_some h
  clear h
  split at h'
  · rename_i t' y f
    split at h'
    · obtain ⟨z', hz, hz'⟩ := Option.map_eq_some_iff.1 h'
      obtain ⟨rfl, hy⟩ := tyVal_eq hz
      cases hy
      cases hz'
      exact in_rep hfl h1 h2 hv
    · obtain ⟨z', hz, hz'⟩ := Option.map_eq_some_iff.1 h'
      obtain ⟨rfl, hy⟩ := tyVal_eq hz
      cases hy
      cases hz'
      have hv' : Rep w.heap (S2 c.SA SF (f || !(hasSl t'))) t' [v] y := by
        cases hs : hasSl t' with
        | false => exact Rep.noSl (S2.memF _) hs hv
        | true =>
          rw [Bool.not_true, Bool.or_false]
          exact hv
      exact loosen hfl (seen_rep H h1 hv' hok ⟨fun k hk => hk.elim (h1 k) fun h => h2 h.1 k h.2, fun _ _ _ _ h => h.elim id fun h => h.2.elim⟩ h3)
  · have hv : v = .slice none 0 0 := hv
    subst hv
    split at h'
    · cases h'
      exact ⟨none, 0, 0, rfl, rfl, Nat.le_refl _, .inl rfl⟩
    · cases h'
      exact ⟨none, 0, 0, rfl, rfl, Nat.le_refl _, .inl ⟨rfl, rfl, fun _ => rfl⟩⟩
    · cases h'
  · rename_i hne1 hne2
    split at h'
    · rename_i t' xs f hct
      split at h'
      · rename_i el
        have hsl : fl = false := by simpa [hasSl] using hfl
        subst hsl
        split at h'
        · obtain ⟨z', hz, hz'⟩ := Option.map_eq_some_iff.1 h'
          obtain ⟨rfl, hy⟩ := tyList_eq hz
          cases hy
          cases hz'
          exact content_slice H hct (fun _ _ _ h => hne1 _ _ _ h) hv h1 h2 h3
        · obtain ⟨z', hz, hz'⟩ := Option.map_eq_some_iff.1 h'
          obtain ⟨rfl, hy⟩ := tyList_eq hz
          cases hy
          cases hz'
          -- the row itself is lent, and the arenas that it leads to
          have hr := content_slice H hct (fun _ _ _ h => hne1 _ _ _ h) hv h1 h2 (fun k ⟨o, ho, h⟩ => h3 k ⟨o, List.mem_append_left _ ho, h⟩)
          exact seen_rep (t := .slice t') H h1 hr (by simp only [seenOk]; cases bareT t' with | true => rfl | false => exact hok) ⟨fun k hk => hk.elim (fun h => h.elim) fun h => h.2, fun _ _ _ _ h => h.elim id fun h => h.2.elim⟩ (fun k ⟨o, ho, h⟩ => h3 k ⟨o, List.mem_append_right _ ho, h⟩)
      · cases h'
    · cases h'
structure SetOk (c : Ctx) (e : Env) (β : Nat → Value) (SF : Loc → Prop) (S' : Nat → Prop) (fresh : Bool) (lent : List Nat) : Prop where
  sf : ∀ k : Nat, SF k → S' k
  sa : fresh = false → ∀ k, c.SA k → S' k
  lent : ∀ k, Lent e β SF lent k → S' k
theorem SetOk.sub {S' : Nat → Prop} {fresh fresh' : Bool} {lent lent' : List Nat} (h : SetOk c e β SF S' fresh lent) (h1 : fresh' = false → fresh = false) (h2 : ∀ o ∈ lent', o ∈ lent) : SetOk c e β SF S' fresh' lent' :=
  ⟨h.sf, fun hf => h.sa (h1 hf), fun k ⟨o, ho, hk⟩ => h.lent k ⟨o, h2 o ho, hk⟩⟩
/-- What is known of a row that is handed over. -/
def RowKnown (v : Env) (n : Nat) : Prop := ∃ (t : Ty) (et : Nat) (ys : List t.den) (f : Bool) (st : Nat), v.obj n = some (.row t et ys f st) ∧ (st = 0 ∨ st = 2)
theorem argVal_names {t : Ty} {fl : Bool} {x : Cell} {z : t.den} {fr ok : Bool} {ns : List Nat} (h : argCell ve (.val t fl) x = some (z, fr, ns, ok)) (hns : ns = []) : cellNames x = [] := by
  unfold argCell at h
  simp only at h
  obtain ⟨hfl, h'⟩ := ite_some h
  clear h
  split at h'
  · rfl
  · rfl
  · split at h'
    · split at h'
      · split at h'
        · obtain ⟨z', hz, hz'⟩ := Option.map_eq_some_iff.1 h'
          cases hz'
          exact hns
        · obtain ⟨z', hz, hz'⟩ := Option.map_eq_some_iff.1 h'
          cases hz'
          exact (List.append_eq_nil_iff.1 hns).1
      · cases h'
    · cases h'
theorem argMix_sound (H : RelB c β SF e a w) {S' : Nat → Prop} : ∀ {l : List CSh} {xs : List Cell} {A : Args l} {vs : List Value}, argCells ve l xs = some A → CellsRep w.heap c.SA SF β xs vs → A.ok = true →
    SetOk c e β SF S' A.fresh A.lent → CellsOut w S' (arF SF) l A.pay vs (A.mov.flatMap (blk β)) ∧ ∀ n ∈ A.mov, RowKnown ve n
  | [], [], _, _, h, hv, _, _ => by cases h; exact ⟨⟨hv, rfl⟩, fun n hn => (by cases hn)⟩
  | [], _ :: _, _, _, h, _, _, _ => by cases h
  | _ :: _, [], _, _, h, _, _, _ => by cases h
  | .val t f :: l, x :: xs, A, _, h, ⟨v, r, rfl, h1, h2⟩, hok, K => by
    simp only [argCells] at h
    split at h
    · rename_i z fr ns ok A' hz hA
      cases h
      obtain ⟨hok1, hok2⟩ := (Bool.and_eq_true _ _).mp hok
      obtain ⟨k1, k2⟩ := argMix_sound H hA h2 hok2 (K.sub (fun hf => by simp [hf]) (fun o ho => List.mem_append_right _ ho))
      exact ⟨⟨v, r, rfl, argVal_rep H hz h1 hok1 K.sf (fun hf => K.sa (by simp [hf])) (fun k ⟨o, ho, hk⟩ => K.lent k ⟨o, List.mem_append_left _ ho, hk⟩), k1⟩, k2⟩
    · cases h
  | .row t et fl :: l, x :: xs, A, _, h, ⟨v, r, rfl, h1, h2⟩, hok, K => by
    simp only [argCells] at h
    split at h
    · rename_i z fr ns ok A' hz hA
      cases h
      obtain ⟨hok1, hok2⟩ := (Bool.and_eq_true _ _).mp hok
      obtain ⟨k1, k2⟩ := argMix_sound H hA h2 hok2 (K.sub (fun hf => by simp [hf]) (fun o ho => List.mem_append_right _ ho))
      unfold argCell at hz
      simp only at hz
      obtain ⟨hfl, hz'⟩ := ite_some hz
      clear hz
      split at hz'
      · rename_i o
        split at hz'
        · rename_i t' et' ys f' st ho
          obtain ⟨hc, hz⟩ := ite_some hz'
          clear hz'
          simp only [Bool.and_eq_true, Nat.beq_eq, loose, Bool.or_eq_true] at hc
          obtain ⟨rfl, hst⟩ := hc
          obtain ⟨z', hz1, hz2⟩ := Option.map_eq_some_iff.1 hz
          obtain ⟨rfl, hy⟩ := tyList_eq hz1
          cases hy
          cases hz2
          obtain ⟨hv, _⟩ := h1
          obtain ⟨cells, g1, g2⟩ := H.objs _ _ (view_obj ho)
          refine ⟨⟨v, r, cells, A'.mov.flatMap (blk β), rfl, ?_, by rw [hv]; exact g1, g2.mono fun _ _ hr => in_rep hfl K.sf (fun hf => K.sa (by simp [hf])) hr, k1⟩, fun n hn => ?_⟩
          · show (([o] ++ A'.mov).flatMap (blk β)) = _
            rw [List.flatMap_append]
            simp only [List.flatMap_cons, List.flatMap_nil, List.append_nil, blk]
            rw [← hv]
          · have hn : n ∈ [o] ++ A'.mov := hn
            rcases List.mem_append.1 hn with hn | hn
            · have := List.mem_singleton.1 hn
              subst this
              exact ⟨t', et, ys, f', st, ho, hst⟩
            · exact k2 n hn
        · cases hz'
      · cases hz'
        have hv : v = .slice none 0 0 := h1
        subst hv
        exact ⟨⟨_, r, [], _, rfl, rfl, World.ownsR_nil _ _ _ _, rfl, k1⟩, k2⟩
      · cases hz'
    · cases h
theorem argRows_sound (H : RelB c β SF e a w) {S' : Nat → Prop} : ∀ {l : List CSh} {xs : List Cell} {A : Args l} {vs : List Value}, argCells ve l xs = some A → A.lent = [] → CellsRep w.heap c.SA SF β xs vs → A.ok = true →
    SetOk c e β SF S' A.fresh [] → CellsOut w S' (arF SF) l A.pay vs ((xs.flatMap cellNames).flatMap (blk β)) ∧ ∀ n ∈ xs.flatMap cellNames, Cell.row n ∈ xs ∧ ∃ (t : Ty) (et : Nat) (ys : List t.den) (f : Bool) (st : Nat), ve.obj n = some (.row t et ys f st) ∧ (st = 0 ∨ st = 2)
  | [], [], _, _, h, _, hv, _, _ => by cases h; exact ⟨⟨hv, rfl⟩, fun n hn => (by cases hn)⟩
  | [], _ :: _, _, _, h, _, _, _, _ => by cases h
  | _ :: _, [], _, _, h, _, _, _, _ => by cases h
  | .val t f :: l, x :: xs, A, _, h, hi, ⟨v, r, rfl, h1, h2⟩, hok, K => by
    simp only [argCells] at h
    split at h
    · rename_i z fr ns ok A' hz hA
      cases h
      obtain ⟨hns, hl⟩ := List.append_eq_nil_iff.1 hi
      obtain ⟨hok1, hok2⟩ := (Bool.and_eq_true _ _).mp hok
      have hx := argVal_names hz hns
      obtain ⟨k1, k2⟩ := argRows_sound H hA hl h2 hok2 (K.sub (fun hf => by simp [hf]) (fun o ho => by cases ho))
      have hfm : (x :: xs).flatMap cellNames = xs.flatMap cellNames := by rw [List.flatMap_cons, hx, List.nil_append]
      rw [hfm]
      exact ⟨⟨v, r, rfl, argVal_rep H hz h1 hok1 K.sf (fun hf => K.sa (by simp [hf])) (fun k ⟨o, ho, _⟩ => by rw [hns] at ho; cases ho), k1⟩, fun n hn => ⟨List.mem_cons_of_mem _ (k2 n hn).1, (k2 n hn).2⟩⟩
    · cases h
  | .row t et fl :: l, x :: xs, A, _, h, hi, ⟨v, r, rfl, h1, h2⟩, hok, K => by
    simp only [argCells] at h
    split at h
    · rename_i z fr ns ok A' hz hA
      cases h
      obtain ⟨hns, hl⟩ := List.append_eq_nil_iff.1 hi
      obtain ⟨hok1, hok2⟩ := (Bool.and_eq_true _ _).mp hok
      obtain ⟨k1, k2⟩ := argRows_sound H hA hl h2 hok2 (K.sub (fun hf => by simp [hf]) (fun o ho => by cases ho))
      unfold argCell at hz
      simp only at hz
      obtain ⟨hfl, hz'⟩ := ite_some hz
      clear hz
      split at hz'
      · rename_i o
        split at hz'
        · rename_i t' et' ys f' st ho
          obtain ⟨hc, hz⟩ := ite_some hz'
          clear hz'
          simp only [Bool.and_eq_true, Nat.beq_eq, loose, Bool.or_eq_true] at hc
          obtain ⟨rfl, hst⟩ := hc
          obtain ⟨z', hz1, hz2⟩ := Option.map_eq_some_iff.1 hz
          obtain ⟨rfl, hy⟩ := tyList_eq hz1
          cases hy
          cases hz2
          obtain ⟨hv, _⟩ := h1
          obtain ⟨cells, g1, g2⟩ := H.objs _ _ (view_obj ho)
          refine ⟨⟨v, r, cells, (xs.flatMap cellNames).flatMap (blk β), rfl, ?_, by rw [hv]; exact g1, g2.mono fun _ _ hr => in_rep hfl K.sf (fun hf => K.sa (by simp [hf])) hr, k1⟩, fun n hn => ?_⟩
          · rw [List.flatMap_cons, List.flatMap_append]
            simp only [cellNames, List.flatMap_cons, List.flatMap_nil, List.append_nil, blk]
            rw [← hv]
          · rw [List.flatMap_cons] at hn
            rcases List.mem_append.1 hn with hn | hn
            · have := List.mem_singleton.1 hn
              subst this
              exact ⟨List.mem_cons_self .., t', et, ys, f', st, ho, hst⟩
            · exact ⟨List.mem_cons_of_mem _ (k2 n hn).1, (k2 n hn).2⟩
        · cases hz'
      · cases hz'
        have hv : v = .slice none 0 0 := h1
        subst hv
        have hfm : (Cell.nil :: xs).flatMap cellNames = xs.flatMap cellNames := by rw [List.flatMap_cons]; rfl
        rw [hfm]
        exact ⟨⟨_, r, [], _, rfl, rfl, World.ownsR_nil _ _ _ _, rfl, k1⟩, fun n hn => ⟨List.mem_cons_of_mem _ (k2 n hn).1, (k2 n hn).2⟩⟩
      · cases hz'
    · cases h
abbrev Boxes := List (Nat × List Cell × Nat)
def bnOf (l : Boxes) : List Nat := l.flatMap fun b => b.1 :: b.2.1.flatMap cellNames
/-- What is known of a variable that is lent. -/
def BoxKnown (e : Env) (v : Env) (b : Nat × List Cell × Nat) : Prop :=
  ∃ st, e.obj b.1 = some (.box b.2.1 st) ∧ v.obj b.1 = some (.box b.2.1 st) ∧ (st = 0 ∨ st = 2) ∧ b.2.2 = rowSt v st b.2.1 ∧
    ∀ n ∈ b.2.1.flatMap cellNames, Cell.row n ∈ b.2.1 ∧ ∃ (t : Ty) (et : Nat) (ys : List t.den) (f : Bool) (st : Nat), v.obj n = some (.row t et ys f st) ∧ (st = 0 ∨ st = 2)
theorem argBox_sound (H : RelB c β SF e a w) {S' : Nat → Prop} {cs : List CSh} {o : Nat} {A : Args cs} (h : argBox ve cs o = some A) (hok : A.ok = true) (K : SetOk c e β SF S' A.fresh A.lent) :
    VarOut w S' (arF SF) cs A.pay (β o) ((bnOf A.boxes).flatMap (blk β)) ∧ A.boxes.map (·.1) = [o] ∧ (∀ b ∈ A.boxes, BoxKnown e ve b) ∧ A.mov = [] := by
  unfold argBox at h
  split at h
  · rename_i xs st ho
    obtain ⟨hst, h'⟩ := ite_some h
    clear h
    simp only [loose, Bool.or_eq_true, Nat.beq_eq] at hst
    split at h'
    · rename_i A' hA
      split at h'
      · rename_i hl
        cases h'
        obtain ⟨g, arr, et, q1, q2, q3⟩ := H.objs _ _ (view_obj ho)
        obtain ⟨k1, k2⟩ := argRows_sound H hA hl q3 hok K
        refine ⟨⟨g, arr, et, _, q1, q2, k1, ?_⟩, rfl, fun b hb => ?_, rfl⟩
        · simp [bnOf, blk, q1, ownB]
        · rw [List.mem_singleton.1 hb]
          exact ⟨st, view_obj ho, ho, hst, rfl, k2⟩
      · cases h'
    · cases h'
  · cases h
theorem bnOf_append (l m : Boxes) : bnOf (l ++ m) = bnOf l ++ bnOf m := List.flatMap_append
theorem argBoxes_sound (H : RelB c β SF e a w) {S' : Nat → Prop} : ∀ {l : List (List CSh)} {os : List Nat} {A : Args l.flatten}, argBoxes ve l os = some A → A.ok = true → SetOk c e β SF S' A.fresh A.lent →
    VarsOut w S' (arF SF) l A.pay (os.map β) ((bnOf A.boxes).flatMap (blk β)) ∧ A.boxes.map (·.1) = os ∧ (∀ b ∈ A.boxes, BoxKnown e ve b) ∧ A.mov = []
  | [], [], _, h, _, _ => by cases h; exact ⟨⟨rfl, rfl⟩, rfl, fun b hb => (by cases hb), rfl⟩
  | [], _ :: _, _, h, _, _ => by cases h
  | _ :: _, [], _, h, _, _ => by cases h
  | cs :: l, o :: os, A, h, hok, K => by
    simp only [argBoxes] at h
    split at h
    · rename_i A1 A2 h1 h2
      cases h
      obtain ⟨hok1, hok2⟩ := (Bool.and_eq_true _ _).mp hok
      obtain ⟨k1, k2, k3, k4⟩ := argBox_sound H h1 hok1 (K.sub (fun hf => by simp [Args.join, hf]) (fun o ho => List.mem_append_left _ ho))
      obtain ⟨q1, q2, q3, q4⟩ := argBoxes_sound H h2 hok2 (K.sub (fun hf => by simp [Args.join, hf]) (fun o ho => List.mem_append_right _ ho))
      refine ⟨⟨β o, os.map β, (bnOf A1.boxes).flatMap (blk β), (bnOf A2.boxes).flatMap (blk β), rfl, ?_, ?_, ?_⟩, ?_, fun b hb => (List.mem_append.1 hb).elim (k3 b) (q3 b), by show A1.mov ++ A2.mov = []; rw [k4, q4]; rfl⟩
      · show ((bnOf (A1.boxes ++ A2.boxes)).flatMap (blk β)) = _
        rw [bnOf_append, List.flatMap_append]
      · show VarOut w S' (arF SF) cs (Pay.split cs l.flatten (Pay.append cs l.flatten A1.pay A2.pay)).1 _ _
        rw [split_append]; exact k1
      · show VarsOut w S' (arF SF) l (Pay.split cs l.flatten (Pay.append cs l.flatten A1.pay A2.pay)).2 _ _
        rw [split_append]; exact q1
      · show (A1.boxes ++ A2.boxes).map _ = _
        rw [List.map_append, k2, q2]; rfl
    · cases h
theorem arg_sound (H : RelB c β SF e a w) {S' : Nat → Prop} {p : PSh} {x : SV} {A : Args p.flat} {v : Value} (h : arg ve p x = some A) (hv : SVRep w.heap c.SA SF β x v) (hok : A.ok = true) (K : SetOk c e β SF S' A.fresh A.lent) :
    ArgIn w S' (arF SF) p A.pay v ((A.boxes.map (·.1)).map β) ((bnOf A.boxes).flatMap (blk β)) (A.mov.flatMap (blk β)) ∧ (∀ b ∈ A.boxes, BoxKnown e ve b) ∧ ∀ n ∈ A.mov, RowKnown ve n := by
  have hb : ∀ {l : List CSh} {xs : List Cell} {A : Args l}, argCells ve l xs = some A → A.boxes = [] := by
    intro l
    induction l with
    | nil => intro xs A h; cases xs <;> simp only [argCells] at h <;> cases h; rfl
    | cons cc l ih =>
      intro xs A h
      cases xs with
      | nil => simp only [argCells] at h; cases h
      | cons y xs =>
        simp only [argCells] at h
        split at h
        · cases h; rfl
        · cases h
  have hnil : bnOf [] = [] := rfl
  cases p with
  | cell cc =>
    have h' : argOne ve cc x = some A := h
    clear h
    unfold argOne at h'
    split at h'
    · have he : Args.boxes (l := [cc]) A = [] := hb (l := [cc]) h'
      obtain ⟨hc, hc'⟩ := argMix_sound (l := [cc]) H h' (.cons hv .nil) hok K
      exact ⟨⟨by rw [he]; rfl, by rw [he]; rfl, hc⟩, fun b hb' => (by rw [he] at hb'; cases hb'), hc'⟩
    · cases h'
  | agg cs =>
    have h' : argAgg ve cs x = some A := h
    clear h
    unfold argAgg at h'
    split at h'
    · obtain ⟨vs, hv1, hv2⟩ := hv
      have he : Args.boxes (l := cs) A = [] := hb (l := cs) h'
      obtain ⟨hc, hc'⟩ := argMix_sound (l := cs) H h' hv2 hok K
      exact ⟨⟨by rw [he]; rfl, by rw [he]; rfl, vs, hv1, hc⟩, fun b hb' => (by rw [he] at hb'; cases hb'), hc'⟩
    · cases h'
  | box cs =>
    have h' : argPtr ve cs x = some A := h
    clear h
    unfold argPtr at h'
    split at h'
    · obtain ⟨g, hv1, hv2⟩ := hv
      obtain ⟨k1, k2, k3, k4⟩ := argBox_sound (cs := cs) H h' hok K
      have k4 : Args.mov (l := cs) A = [] := k4
      refine ⟨⟨?_, by rw [k4]; rfl, ?_⟩, k3, fun n hn => by rw [k4] at hn; cases hn⟩
      · rw [k2, hv2, ← hv1]; rfl
      · rw [hv2, ← hv1]; exact k1
    · cases h'
  | fn f l =>
    have h' : argFn ve f l x = some A := h
    clear h
    unfold argFn at h'
    split at h'
    · obtain ⟨h1, h2⟩ := ite_some h'
      clear h'
      simp only [Nat.beq_eq] at h1
      subst h1
      obtain ⟨hv1, hv2⟩ := hv
      obtain ⟨k1, k2, k3, k4⟩ := argBoxes_sound (l := l) H h2 hok K
      have k4 : Args.mov (l := l.flatten) A = [] := k4
      rw [← k2] at hv1 k1
      exact ⟨⟨hv1, by rw [k4]; rfl, k1⟩, k3, fun n hn => by rw [k4] at hn; cases hn⟩
    · cases h'
end
end Go.Px

/- Calls: the caller's side, what comes back. -/
namespace Go.Px
open Go

section
variable {P : Program} {cx : Cx} {c : Ctx} {β : Nat → Value} {SF : Loc → Prop} {e : Env} {a : Act} {w : World} {ve : Env} [Sub ve e]
theorem args_sound (H : RelB c β SF e a w) {S' : Nat → Prop} : ∀ {l : List PSh} {xs : List SV} {A : Args (l.flatMap PSh.flat)} {vs : List Value}, args ve l xs = some A → All2 (SVRep w.heap c.SA SF β) xs vs → A.ok = true →
    SetOk c e β SF S' A.fresh A.lent → ArgsIn w S' (arF SF) l A.pay vs ((A.boxes.map (·.1)).map β) ((bnOf A.boxes).flatMap (blk β)) (A.mov.flatMap (blk β)) ∧ (∀ b ∈ A.boxes, BoxKnown e ve b) ∧ ∀ n ∈ A.mov, RowKnown ve n
  | [], [], _, _, h, hv, _, _ => by cases h; exact ⟨⟨hv, rfl, rfl, rfl⟩, fun b hb => (by cases hb), fun n hn => (by cases hn)⟩
  | [], _ :: _, _, _, h, _, _, _ => by cases h
  | _ :: _, [], _, _, h, _, _, _ => by cases h
  | p :: l, x :: xs, A, _, h, ⟨v, r, rfl, hv1, hv2⟩, hok, K => by
    simp only [args] at h
    split at h
    · rename_i A1 A2 h1 h2
      cases h
      obtain ⟨hok1, hok2⟩ := (Bool.and_eq_true _ _).mp hok
      obtain ⟨k1, k2, k3⟩ := arg_sound H h1 hv1 hok1 (K.sub (fun hf => by simp [Args.join, hf]) (fun o ho => List.mem_append_left _ ho))
      obtain ⟨q1, q2, q3⟩ := args_sound H h2 hv2 hok2 (K.sub (fun hf => by simp [Args.join, hf]) (fun o ho => List.mem_append_right _ ho))
      refine ⟨⟨v, r, (A1.boxes.map (·.1)).map β, (A2.boxes.map (·.1)).map β, (bnOf A1.boxes).flatMap (blk β), (bnOf A2.boxes).flatMap (blk β), A1.mov.flatMap (blk β), A2.mov.flatMap (blk β), rfl, ?_, ?_, List.flatMap_append, ?_, ?_⟩, fun b hb => (List.mem_append.1 hb).elim (k2 b) (q2 b), fun n hn => (List.mem_append.1 hn).elim (k3 n) (q3 n)⟩
      · show ((A1.boxes ++ A2.boxes).map _).map _ = _
        rw [List.map_append, List.map_append]
      · show ((bnOf (A1.boxes ++ A2.boxes)).flatMap (blk β)) = _
        rw [bnOf_append, List.flatMap_append]
      · show ArgIn w S' (arF SF) p (Pay.split p.flat (l.flatMap PSh.flat) (Pay.append p.flat (l.flatMap PSh.flat) A1.pay A2.pay)).1 _ _ _ _
        rw [split_append]; exact k1
      · show ArgsIn w S' (arF SF) l (Pay.split p.flat (l.flatMap PSh.flat) (Pay.append p.flat (l.flatMap PSh.flat) A1.pay A2.pay)).2 _ _ _ _
        rw [split_append]; exact q1
    · cases h
/-! ### What is written behind a call -/
theorem RelB.rename (H : RelB c β SF e a w) {β' : Nat → Value} (h : ∀ n, OccL e n → β' n = β n) : RelB c β' SF e a w := by
  have ho : ∀ o ov, e.obj o = some ov → β' o = β o := fun o ov h' => h o (.inr ⟨_, look_mem h', .inl rfl⟩)
  refine H.go (fun _ => False) rfl rfl rfl (Nat.le_refl _) (fun _ _ _ => rfl) (fun _ h => h.elim) (fun _ h => h) (fun _ _ _ _ h => h) H.sf H.nd H.nt (fun _ _ => rfl)
    (fun s sv hs => .inl ⟨hs, rfl, fun n hn => h n (.inl ⟨_, look_mem hs, hn⟩)⟩)
    (fun o ov ho' => .inl ⟨ho', ho o ov ho', fun n hn => h n (.inr ⟨_, look_mem ho', .inr hn⟩), fun _ _ => ⟨id, fun _ h => h⟩⟩) (fun o o' ov ov' g hne h1 h2 => ?_)
  have hs : ∀ ov : OV, Same SF SF ov := fun ov => by cases ov <;> first | trivial | exact fun _ _ _ h => h
  exact fun q1 q2 => H.inj o o' ov ov' g hne h1 h2 (q1.back (hs _) (ho o ov h1)) (q2.back (hs _) (ho o' ov' h2))
/-- An object is added. -/
theorem RelB.add (H : RelB c β SF e a w) {o : Nat} {ov : OV} (hob : ObjRep c.SA SF β w o ov)
    (hown : ∀ g, Owns SF β o ov g → g < w.heap.size ∧ ((ov.st = 0 ∧ c.w0.heap.size ≤ g ∧ ¬ SF g) ∨ (ov.st = 1 ∧ SF g) ∨ (ov.st = 2 ∧ (c.Bor g ∨ c.w0.heap.size ≤ g ∧ ¬ SF g))) ∧ ∀ o' ov', o' ≠ o → e.obj o' = some ov' → ¬ Owns SF β o' ov' g) :
    RelB c β SF (e.put (.obj o (some ov))) a w := by
  refine H.go (fun _ => False) rfl rfl rfl (Nat.le_refl _) (fun _ _ _ => rfl) (fun _ h => h.elim) (fun _ h => h) (fun _ _ _ _ h => h) H.sf H.nd H.nt (fun _ _ => rfl)
    (fun s sv hs => .inl ⟨hs, rfl, fun _ _ => rfl⟩) (fun o' ov' ho' => ?_) (fun o1 o2 ov1 ov2 g hne12 h1 h2 hg1 hg2 => ?_)
  · rw [obj_put_obj] at ho'
    by_cases h : o = o'
    · subst h
      rw [if_pos rfl] at ho'
      cases ho'
      exact .inr ⟨hob, fun g hg => ⟨(hown g hg).1, (hown g hg).2.1⟩⟩
    · rw [if_neg h] at ho'
      exact .inl ⟨ho', rfl, fun _ _ => rfl, fun _ _ => ⟨id, fun _ h => h⟩⟩
  · rw [obj_put_obj] at h1 h2
    by_cases e1 : o = o1
    · subst e1
      rw [if_neg hne12] at h2
      rw [if_pos rfl] at h1
      cases h1
      exact (hown g hg1).2.2 o2 _ (fun h => hne12 h.symm) h2 hg2
    · rw [if_neg e1] at h1
      by_cases e2 : o = o2
      · subst e2
        rw [if_pos rfl] at h2
        cases h2
        exact (hown g hg2).2.2 o1 _ hne12 h1 hg1
      · rw [if_neg e2] at h2
        exact H.inj o1 o2 _ _ g hne12 h1 h2 hg1 hg2
/-- The state of an object suits its block. -/
def StOk (c : Ctx) (ov : OV) (g : Nat) : Prop := (ov.st = 0 ∧ c.w0.heap.size ≤ g) ∨ (ov.st = 2 ∧ (c.Bor g ∨ c.w0.heap.size ≤ g))
/-- Objects that are added, and their blocks. -/
def AddsOK (c : Ctx) (β : Nat → Value) (SF : Loc → Prop) (w : World) : List W → List Nat → Prop
  | [], bs => bs = []
  | .obj n (some ov) :: r, bs => ∃ b1 b, bs = b1 ++ b ∧ (∀ g, g ∈ b1 ↔ Owns SF β n ov g) ∧ ObjRep c.SA SF β w n ov ∧ (∀ g ∈ b1, StOk c ov g) ∧ AddsOK c β SF w r b
  | _ :: _, _ => False
theorem AddsOK.append : ∀ {l m : List W} {b1 b2 : List Nat}, AddsOK c β SF w l b1 → AddsOK c β SF w m b2 → AddsOK c β SF w (l ++ m) (b1 ++ b2)
  | [], _, _, _, h, h' => by simp only [AddsOK] at h; subst h; exact h'
  | .obj n (some ov) :: l, m, _, b2, ⟨b0, b, h1, h0, h2, h3, h4⟩, h' => ⟨b0, b ++ b2, by rw [h1, List.append_assoc], h0, h2, h3, h4.append h'⟩
  | .obj _ none :: _, _, _, _, h, _ => h.elim
  | .slot _ _ :: _, _, _, _, h, _ => h.elim
theorem owns_list {v : Value} {o : Nat} {ov : OV} (hf : ov.flat) (hv : β o = v) (g : Nat) : g ∈ (ownB v).toList ↔ Owns SF β o ov g := by
  subst hv
  rw [Option.mem_toList]
  exact ⟨fun h => Owns.of hf h, fun h => h.flat hf⟩
theorem adds_sound : ∀ {ws : List W} {bs : List Nat} {e : Env}, RelB c β SF e a w → AddsOK c β SF w ws bs → (wObjs ws).Nodup → (∀ n ∈ wObjs ws, e.obj n = none) → bs.Nodup →
    (∀ k ∈ bs, k < w.heap.size ∧ ¬ SF k ∧ ∀ o ov, e.obj o = some ov → ¬ Owns SF β o ov k) → RelB c β SF (e.puts ws) a w
  | [], _, _, H, _, _, _, _, _ => H
  | .obj _ none :: _, _, _, _, h, _, _, _, _ => h.elim
  | .slot _ _ :: _, _, _, _, h, _, _, _, _ => h.elim
  | .obj n (some ov) :: ws, _, e, H, ⟨b0, b, rfl, h0, h2, h3, h4⟩, hn, hnone, hnd, hb => by
    simp only [wObjs, List.nodup_cons] at hn
    obtain ⟨d1, d2, d3⟩ := List.nodup_append.1 hnd
    rw [Env.puts_cons]
    refine adds_sound (H.add h2 fun g hg => ?_) h4 hn.2 (fun m hm => ?_) d2 (fun k hk => ?_)
    · have hg := (h0 g).2 hg
      obtain ⟨b1, b2, b3⟩ := hb g (List.mem_append_left _ hg)
      refine ⟨b1, ?_, fun o' ov' _ h => b3 o' ov' h⟩
      rcases h3 g hg with h | h
      · exact .inl ⟨h.1, h.2, b2⟩
      · exact .inr (.inr ⟨h.1, h.2.imp id fun h => ⟨h, b2⟩⟩)
    · rw [obj_put_obj, if_neg]
      · exact hnone m (by simp only [wObjs, List.mem_cons]; exact .inr hm)
      · rintro rfl; exact hn.1 hm
    · obtain ⟨b1, b2, b3⟩ := hb k (List.mem_append_right _ hk)
      refine ⟨b1, b2, fun o ov' ho => ?_⟩
      rw [obj_put_obj] at ho
      split at ho
      · subst_vars
        cases ho
        intro hk'
        exact d3 k ((h0 k).2 hk') k hk rfl
      · exact b3 o ov' ho
/-- Rows that lead on are frozen ahead of the call. -/
theorem freezes_sound {v : Env} (hv : ∀ o ov, v.obj o = some ov → e.obj o = some ov) : ∀ {l : List Nat} {fz : List W}, freezes v l = some fz → ∀ {e' : Env} {SF : Loc → Prop}, RelB c β SF e' a w →
    (∀ o ∈ l, ∀ (t : Ty) (et : Nat) (xs : List t.den) (f : Bool) (st : Nat), e.obj o = some (.row t et xs f st) → e'.obj o = some (.row t et xs f st) ∨ e'.obj o = some (.row t et xs f 1)) →
    ∃ SF', (∀ k, SF k → SF' k) ∧ Mem' SF' SF ∧ (∀ o ∈ l, (∃ ov, e.obj o = some ov ∧ ov.flat) ∧ ∀ k : Nat, ownB (β o) = some k → SF' k) ∧ RelB c β SF' (e'.puts fz) a w ∧ (∀ n, n ∉ l → (e'.puts fz).obj n = e'.obj n) ∧ (∀ n, (e'.puts fz).slot n = e'.slot n) ∧
      (∀ n, OccL (e'.puts fz) n → OccL e' n ∨ n ∈ l)
  | [], fz, h, e', SF, H, _ => by
    simp only [freezes] at h
    cases h
    exact ⟨SF, fun _ h => h, fun _ _ _ _ h => h, fun o ho => (by cases ho), H, fun _ _ => rfl, fun _ => rfl, fun n h => .inl h⟩
  | o :: l, fz, h, e', SF, H, hq => by
    simp only [freezes] at h
    split at h
    · rename_i t et xs f ws ho hws
      cases h
      have ho := hv _ _ ho
      have key : ∀ (e1 : Env) (SF1 : Loc → Prop), e1 = e'.put (.obj o (some (.row t et xs f 1))) → (∀ k, SF k → SF1 k) → Mem' SF1 SF → RelB c β SF1 e1 a w →
          ∃ SF', (∀ k, SF k → SF' k) ∧ Mem' SF' SF ∧ (∀ n ∈ o :: l, (∃ ov, e.obj n = some ov ∧ ov.flat) ∧ ∀ k : Nat, ownB (β n) = some k → SF' k) ∧ RelB c β SF' (e1.puts ws) a w ∧ (∀ n, n ∉ o :: l → (e1.puts ws).obj n = e'.obj n) ∧ (∀ n, (e1.puts ws).slot n = e'.slot n) ∧
            (∀ n, OccL (e1.puts ws) n → OccL e' n ∨ n ∈ o :: l) := by
        intro e1 SF1 he h1 hm h2
        have hobj : ∀ n, e1.obj n = if o = n then some (.row t et xs f 1) else e'.obj n := fun n => by rw [he, obj_put_obj]
        obtain ⟨SF2, k1, km, k2, k3, k4, k5, k6⟩ := freezes_sound hv hws h2 (fun n hn t' et' xs' f' st' hn' => by
          rw [hobj]
          split
          · subst_vars
            rw [ho] at hn'
            cases hn'
            exact .inr rfl
          · exact hq n (List.mem_cons_of_mem _ hn) t' et' xs' f' st' hn')
        refine ⟨SF2, fun k hk => k1 k (h1 k hk), fun et' k' g' C' h => hm _ _ _ _ (km _ _ _ _ h), fun n hn => ?_, k3, fun n hn => ?_, fun n => by rw [k5, he]; rfl, fun n hn => ?_⟩
        · rcases List.mem_cons.1 hn with rfl | hn
          · refine ⟨⟨_, ho, trivial⟩, fun k hk => ?_⟩
            rcases (h2.own n (.row t et xs f 1) k (by rw [hobj, if_pos rfl]) hk).2 with h | h | h
            · exact absurd h.1 (by simp [OV.st])
            · exact k1 k h.2
            · exact absurd h.1 (by simp [OV.st])
          · exact k2 n hn
        · rw [List.mem_cons, not_or] at hn
          rw [k4 n hn.2, hobj, if_neg fun h => hn.1 h.symm]
        · rcases k6 n hn with h | h
          · rw [he, occL_put] at h
            rcases h with h | h
            · exact .inl h
            · simp only [wNames, OV.names, List.mem_singleton] at h
              exact .inr (by rw [h]; exact List.mem_cons_self ..)
          · exact .inr (List.mem_cons_of_mem _ h)
      rw [Env.puts_cons]
      rcases hq o (List.mem_cons_self ..) t et xs f 0 ho with h1 | h1
      · exact key _ _ rfl fz.sub fz.mem (H.freeze h1)
      · exact key _ _ rfl (fun _ h => h) (fun _ _ _ _ h => h) (H.retell h1 (.inl rfl) (H.objs _ _ h1))
    · rename_i t et xs f ws ho hws
      cases h
      have ho := hv _ _ ho
      obtain ⟨SF2, k1, km, k2, k3, k4, k5, k6⟩ := freezes_sound hv hws H (fun n hn => hq n (List.mem_cons_of_mem _ hn))
      refine ⟨SF2, k1, km, fun n hn => ?_, k3, fun n hn => k4 n fun h => hn (List.mem_cons_of_mem _ h), k5, fun n hn => (k6 n hn).imp id (List.mem_cons_of_mem _)⟩
      rcases List.mem_cons.1 hn with rfl | hn
      · have h1 : e'.obj n = some (.row t et xs f 1) := (hq n (List.mem_cons_self ..) t et xs f 1 ho).elim id id
        refine ⟨⟨_, ho, trivial⟩, fun k hk => ?_⟩
        rcases (H.own n (.row t et xs f 1) k h1 hk).2 with h | h | h
        · exact absurd h.1 (by simp [OV.st])
        · exact k1 k h.2
        · exact absurd h.1 (by simp [OV.st])
      · exact k2 n hn
    · cases h
theorem drops_sound : ∀ {l : List Nat} {e : Env}, RelB c β SF e a w → RelB c β SF (e.puts (l.map fun n => .obj n none)) a w ∧
    (∀ n, (e.puts (l.map fun n => .obj n none)).obj n = if n ∈ l then none else e.obj n) ∧ (∀ s, (e.puts (l.map fun n => .obj n none)).slot s = e.slot s)
  | [], e, H => ⟨H, fun n => by simp [Env.puts_nil], fun _ => rfl⟩
  | o :: l, e, H => by
    rw [List.map_cons, Env.puts_cons]
    obtain ⟨h1, h2, h3⟩ := drops_sound (l := l) (H.drop o)
    refine ⟨h1, fun n => ?_, fun s => by rw [h3]; rfl⟩
    rw [h2, obj_put_obj]
    by_cases hn : n ∈ l
    · rw [if_pos hn, if_pos (List.mem_cons_of_mem _ hn)]
    · rw [if_neg hn]
      by_cases ho : o = n
      · rw [if_pos ho, if_pos (by rw [ho]; exact List.mem_cons_self ..)]
      · rw [if_neg ho, if_neg]
        rw [List.mem_cons, not_or]
        exact ⟨fun h => ho h.symm, hn⟩
end
end Go.Px
