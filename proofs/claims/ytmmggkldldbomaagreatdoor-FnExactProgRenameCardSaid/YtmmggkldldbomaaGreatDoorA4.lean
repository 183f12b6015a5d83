/- Own texts, part A4: PxU PxV PxW PxY PxZ. -/
import Derived.Test.YtmmggkldldbomaaGreatDoorA3
set_option linter.unusedVariables false
namespace Go.Px
open Go
abbrev y5 : Loc → Prop := fun _ => False
def gG (SF : Loc → Prop) (t : Ty) (et : Nat) (bs : List (Option (List t.den))) (b : List Nat) : Prop := b.Nodup ∧ ∀ g, g ∈ b ↔ ∃ k xs C, bs[k]? = some (some xs) ∧ SF (.m et (k + 1) g C)
def cO (w : World) (SA : Nat → Prop) (SF : Loc → Prop) : (ms : List (Nat × Ty)) → mM ms → List Nat → Prop
 | [], _, b => b = []
 | p :: r, q, b => ∃ b1 b2, b = b1 ++ b2 ∧ dy w.heap SA SF p.2 p.1 q.1 ∧ gG SF p.2 p.1 q.1 b1 ∧ cO w SA SF r q.2 b2
def cH (w : World) (SA : Nat → Prop) (SF : Loc → Prop) : (l : List eZ) → cR l → List Value → List Nat → Prop
 | [], _, vs, bs => vs = [] ∧ bs = []
 | .val t f :: l, p, vs, bs => ∃ v r, vs = v :: r ∧ bm w.heap (S2 SA SF f) t [v] p.1 ∧ cH w SA SF l p.2 r bs
 | .row t et f :: l, p, vs, bs => ∃ v r cells b, vs = v :: r ∧ bs = (bo v).toList ++ b ∧ w.fc 0 et t.size v (List.length (α := t.den) p.1) cells ∧
   b7 (bm w.heap (S2 SA SF f) t) p.1 cells ∧ cH w SA SF l p.2 r b
def kF (w : World) (SA : Nat → Prop) (SF : Loc → Prop) (cs : List eZ) (p : cR cs) (v : Value) (bs : List Nat) : Prop :=
 ∃ g arr et b, v = .pointer (some ⟨g, 0, none⟩) ∧ w.heap[g]? = some (.cells arr et (0, 0)) ∧ cH w SA SF cs p arr.toList b ∧ bs = g :: b
def fg (w : World) (SA : Nat → Prop) (SF : Loc → Prop) : (l : List (List eZ)) → cR l.flatten → List Value → List Nat → Prop
 | [], _, vs, bs => vs = [] ∧ bs = []
 | cs :: l, p, vs, bs => ∃ v r b1 b2, vs = v :: r ∧ bs = b1 ++ b2 ∧ kF w SA SF cs (cR.split cs l.flatten p).1 v b1 ∧ fg w SA SF l (cR.split cs l.flatten p).2 r b2
def y6 (w : World) (SA : Nat → Prop) (N0 : Loc → Prop) : (p : kC) → cR p.flat → Value → List Value → List Nat → List Nat → Prop
 | .cell c, q, v, ps, bs, ms => ps = [] ∧ bs = [] ∧ cH w SA N0 [c] q [v] ms
 | .agg cs, q, v, ps, bs, ms => ps = [] ∧ bs = [] ∧ ∃ us : List Value, v = .agg us.toArray ∧ cH w SA N0 cs q us ms
 | .box cs, q, v, ps, bs, ms => ps = [v] ∧ ms = [] ∧ kF w SA N0 cs q v bs
 | .fn f l, q, v, ps, bs, ms => v = .func (.func f) #[] ps.toArray ∧ ms = [] ∧ fg w SA N0 l q ps bs
 | .ad et t off, q, v, ps, bs, ms => ps = [] ∧ bs = [] ∧ ms = [] ∧ ∃ g C, N0 (.m et q.1.1 g C) ∧ v = .pointer (some ⟨g, C.1 + (q.1.2.1 * t.size + off), none⟩)
def gU (w : World) (SA : Nat → Prop) (N0 : Loc → Prop) : (l : List kC) → cR (l.flatMap kC.flat) → List Value → List Value → List Nat → List Nat → Prop
 | [], _, vs, ps, bs, ms => vs = [] ∧ ps = [] ∧ bs = [] ∧ ms = []
 | p :: l, q, vs, ps, bs, ms => ∃ v r p1 p2 b1 b2 m1 m2, vs = v :: r ∧ ps = p1 ++ p2 ∧ bs = b1 ++ b2 ∧ ms = m1 ++ m2 ∧ y6 w SA N0 p (cR.split p.flat (l.flatMap kC.flat) q).1 v p1 b1 m1 ∧
   gU w SA N0 l (cR.split p.flat (l.flatMap kC.flat) q).2 r p2 b2 m2
abbrev gl := Nat → Option Obj
def y7 (G : gl) (h : Array Obj) (B : Nat → Prop) : Prop := ∀ k o, G k = some o → h[k]? = some o ∧ ¬ B k
structure Lm (G : gl) (w : World) (SA : Nat → Prop) (N0 : Loc → Prop) (s : bh) (q : s.In) (vs ps : List Value) (bs ms : List Nat) : Prop where
 args : ∃ m1 m2, ms = m1 ++ m2 ∧ gU w SA N0 s.ins (bN.out _ q) vs ps bs m1 ∧ cO w SA N0 s.bA (bN.ms _ q) m2
 n0 : ∀ k : Nat, ¬ N0 k
 nodup : (bs ++ ms).Nodup
 sa : ∀ k, SA k → k < w.heap.size ∧ k ∉ bs ++ ms
 Lq : y7 G w.heap fun k => k ∈ bs ++ ms
def NZ (w : World) (SA : Nat → Prop) (SF : Loc → Prop) (k : Nat) (cs : List eZ) (p : cR cs) (v : Value) (bs : List Nat) : Prop :=
 (k = 2 ∧ kF w SA SF cs p v bs) ∨ (k ≠ 2 ∧ ∃ us, cH w SA SF cs p us bs ∧ v = valOf (Nat.beq k 1) us)
def iK (w : World) (SA : Nat → Prop) (SF : Loc → Prop) : (l : List (Nat × List eZ)) → cR (aK l) → List Value → List Nat → Prop
 | [], _, vs, bs => vs = [] ∧ bs = []
 | bc :: l, p, vs, bs => ∃ v r b1 b2, vs = v :: r ∧ bs = b1 ++ b2 ∧ NZ w SA SF bc.1 bc.2 (cR.split bc.2 (aK l) p).1 v b1 ∧ iK w SA SF l (cR.split bc.2 (aK l) p).2 r b2
def DO (us : List Value) : Value := if us.length = 1 then us.headD undef else .tuple us.toArray
structure sy (w : World) (SA : Nat → Prop) (N0 : Loc → Prop) (bs ms : List Nat) (ps : List Value) (s : bh) (q : s.Out) (v : Value) (w' : World) (SF : Loc → Prop) (us : List Value) (b1 b2 : List Nat) : Prop where
 os : w'.os = w.os
 tape : w'.tape = w.tape
 output : w'.output = w.output
 size : w.heap.size ≤ w'.heap.size
 sr : ∀ k, k < w.heap.size → k ∉ bs ++ ms → w'.heap[k]? = w.heap[k]?
 sf : ∀ k : Nat, SF k → w.heap.size ≤ k ∧ k < w'.heap.size
 mu : ∀ l, N0 l → SF l
 outs : ∃ b0 b3, b1 = b0 ++ b3 ∧ iK w' SA SF s.outs (cR.split (aK s.outs) s.boxes.flatten (bN.out _ q)).1 us b0 ∧ cO w' SA SF s.bA (bN.ms _ q) b3
 val : v = DO us
 qa : fg w' SA SF s.boxes (cR.split (aK s.outs) s.boxes.flatten (bN.out _ q)).2 ps b2
 new : ∀ k ∈ b1, (w.heap.size ≤ k ∨ k ∈ ms) ∧ k < w'.heap.size
 loose : ∀ k ∈ b1 ++ b2, ¬ SF k
 back : ∀ k ∈ b2, k < w'.heap.size ∧ (k ∈ bs ∨ w.heap.size ≤ k)
 nodup : (b1 ++ b2).Nodup
def bU (P : Program) (G : gl) (f : FuncId) (fd : FD) : Prop := ∀ (w : World) (SA : Nat → Prop) (N0 : Loc → Prop) (vs ps : List Value) (bs ms : List Nat) (p : fd.sig.In) (q : fd.sig.Out), fd.run p = some q → Lm G w SA N0 fd.sig p vs ps bs ms →
 Calls P f vs.toArray w fun e w' => ∃ v SF us b1 b2, e = .returned v ∧ sy w SA N0 bs ms ps fd.sig q v w' SF us b1 b2
structure fq (w : World) (SA : Nat → Prop) (N0 : Loc → Prop) (β : Nat → Value) (L : List (Nat × Option OV)) (lo hi : Nat) (bs : List Nat) : Prop where
 mem : ∀ o ov, look L o = some ov → lo ≤ o ∧ o < hi ∧ ov.st = 2 ∧ cS SA N0 β w o ov ∧ (∀ g, bo (β o) = some g → g ∈ bs) ∧ (∀ n ∈ ov.names, lo ≤ n ∧ n < hi) ∧ ov.flat
 inj : ∀ o o' ov ov' g, look L o = some ov → look L o' = some ov' → bo (β o) = some g → bo (β o') = some g → o = o'
section
variable {w : World} {SA : Nat → Prop} {N0 : Loc → Prop} {β β1 β2 : Nat → Value} {L L1 L2 : List (Nat × Option OV)} {lo mid hi : Nat} {bs b1 b2 : List Nat}
theorem fq.nil : fq w SA N0 β [] lo hi [] := ⟨fun _ _ h => (by cases h), fun _ _ _ _ _ h => (by cases h)⟩
theorem vS {o : Nat} {ov : OV} (hβ0 : β2 o = β1 o) (hβ : ∀ n ∈ ov.names, β2 n = β1 n) (H : cS SA N0 β1 w o ov) : cS SA N0 β2 w o ov :=
 H.mono (fun _ h => h) (fun _ _ => rfl) (fun _ _ => rfl) (by cases ov <;> first | trivial | exact fun _ _ _ h => h) hβ0 hβ
theorem wI {h : Array Obj} {cs : List Cell} {vs : List Value} (hβ : ∀ n ∈ cs.flatMap aq, β2 n = β1 n) (H : ao h SA N0 β1 cs vs) : ao h SA N0 β2 cs vs :=
 H.mono (fun _ h => h) (fun _ _ => rfl) hβ
theorem fq.cons {v : Value} {ov : OV} (H : fq w SA N0 β L (lo + 1) hi bs) (hlt : lo < hi) (hob : cS SA N0 (AU β lo v) w lo ov) (hst : ov.st = 2) (hn : ∀ n ∈ ov.names, lo + 1 ≤ n ∧ n < hi) (hfl : ov.flat) (hnd : ((bo v).toList ++ bs).Nodup) :
  fq w SA N0 (AU β lo v) ((lo, some ov) :: L) lo hi ((bo v).toList ++ bs) := by
 have hne : ∀ n, lo + 1 ≤ n → AU β lo v n = β n := fun n h => ny v (by omega)
 have hdj : ∀ g, bo v = some g → g ∉ bs := fun g hg hm => by
  rw [hg] at hnd
  simp only [Option.toList_some, List.singleton_append, List.nodup_cons] at hnd
  exact hnd.1 hm
 refine ⟨fun o ov' h => ?_, fun o o' ov1 ov2 g h h' hg hg' => ?_⟩
 ·rw [dz] at h
  split at h
  ·subst_vars
   cases h
   refine ⟨Nat.le_refl _, hlt, hst, hob, fun g hg => ?_, fun n hn' => ⟨by have := (hn n hn').1; omega, (hn n hn').2⟩, hfl⟩
   rw [bT] at hg
   exact List.mem_append_left _ (by simp [hg])
  ·obtain ⟨h1, h2, h3, h4, h5, h6, h7⟩ := H.mem _ _ h
   refine ⟨by omega, h2, h3, vS (hne _ h1) (fun n hn' => hne _ (h6 n hn').1) h4, fun g hg => ?_, fun n hn' => ⟨by have := (h6 n hn').1; omega, (h6 n hn').2⟩, h7⟩
   rw [hne _ h1] at hg
   exact List.mem_append_right _ (h5 g hg)
 ·rw [dz] at h h'
  split at h
  ·rename_i e1
   split at h'
   ·rename_i e2; rw [← e1, ← e2]
   ·obtain ⟨k1, _, _, _, k5, _⟩ := H.mem _ _ h'
    rw [← e1, bT] at hg
    rw [hne _ k1] at hg'
    exact absurd (k5 g hg') (hdj g hg)
  ·obtain ⟨k1, _, _, _, k5, _⟩ := H.mem _ _ h
   rw [hne _ k1] at hg
   split at h'
   ·rename_i e2
    rw [← e2, bT] at hg'
    exact absurd (k5 g hg) (hdj g hg')
   ·obtain ⟨q1, _⟩ := H.mem _ _ h'
    rw [hne _ q1] at hg'
    exact H.inj _ _ _ _ g h h' hg hg'
def glue (mid : Nat) (β1 β2 : Nat → Value) : Nat → Value := fun n => if n < mid then β1 n else β2 n
theorem fq.append (H1 : fq w SA N0 β1 L1 lo mid b1) (H2 : fq w SA N0 β2 L2 mid hi b2) (hlo : lo ≤ mid) (hhi : mid ≤ hi) (hnd : (b1 ++ b2).Nodup) : fq w SA N0 (glue mid β1 β2) (L1 ++ L2) lo hi (b1 ++ b2) := by
 have e1 : ∀ n, n < mid → glue mid β1 β2 n = β1 n := fun n h => if_pos h
 have e2 : ∀ n, mid ≤ n → glue mid β1 β2 n = β2 n := fun n h => if_neg (by omega)
 have hdj : ∀ g, g ∈ b1 → g ∈ b2 → False := fun g h1 h2 => (List.nodup_append.1 hnd).2.2 g h1 g h2 rfl
 refine ⟨fun o ov h => ?_, fun o o' ov1 ov2 g h h' hg hg' => ?_⟩
 ·rcases fB _ _ _ _ h with h | h
  ·obtain ⟨h1, h2, h3, h4, h5, h6, h7⟩ := H1.mem _ _ h
   exact ⟨h1, by omega, h3, vS (e1 _ h2) (fun n hn => e1 _ (h6 n hn).2) h4, fun g hg => List.mem_append_left _ (h5 g (by rw [← e1 _ h2]; exact hg)), fun n hn => ⟨(h6 n hn).1, by have := (h6 n hn).2; omega⟩, h7⟩
  ·obtain ⟨h1, h2, h3, h4, h5, h6, h7⟩ := H2.mem _ _ h
   exact ⟨by omega, h2, h3, vS (e2 _ h1) (fun n hn => e2 _ (h6 n hn).1) h4, fun g hg => List.mem_append_right _ (h5 g (by rw [← e2 _ h1]; exact hg)), fun n hn => ⟨by have := (h6 n hn).1; omega, (h6 n hn).2⟩, h7⟩
 ·rcases fB _ _ _ _ h with h | h <;> rcases fB _ _ _ _ h' with h' | h'
  ·rw [e1 _ (H1.mem _ _ h).2.1] at hg
   rw [e1 _ (H1.mem _ _ h').2.1] at hg'
   exact H1.inj _ _ _ _ g h h' hg hg'
  ·rw [e1 _ (H1.mem _ _ h).2.1] at hg
   rw [e2 _ (H2.mem _ _ h').1] at hg'
   exact (hdj g ((H1.mem _ _ h).2.2.2.2.1 g hg) ((H2.mem _ _ h').2.2.2.2.1 g hg')).elim
  ·rw [e2 _ (H2.mem _ _ h).1] at hg
   rw [e1 _ (H1.mem _ _ h').2.1] at hg'
   exact (hdj g ((H1.mem _ _ h').2.2.2.2.1 g hg') ((H2.mem _ _ h).2.2.2.2.1 g hg)).elim
  ·rw [e2 _ (H2.mem _ _ h).1] at hg
   rw [e2 _ (H2.mem _ _ h').1] at hg'
   exact H2.inj _ _ _ _ g h h' hg hg'
theorem qp (i j : Nat) : gS i (j + 1) = gS i j + 1 := by simp [gS]; omega
theorem JP {S S' : Nat → Prop} {h : Array Obj} {t : Ty} {vs : List Value} {x : t.den} {f : Bool} (hf : f = true → cE t = false) (hS : ∀ k, S k → S' k) (H : bm h (S2 S N0 true) t vs x ∨ bm h (S2 S N0 false) t vs x) : bm h (S2 S' N0 f) t vs x := by
 cases f with
 | true => exact H.elim (bm.lT (fun _ _ _ _ h => .inl (h.elim id fun h => h.2.elim)) (hf rfl)) (bm.lT (fun _ _ _ _ h => .inl (h.elim id fun h => h.2.elim)) (hf rfl))
 | false => exact H.elim (bm.mono (fun k hk => hk.elim .inl fun h => by cases h.1) fun _ _ => rfl) (bm.mono (fun k hk => hk.elim .inl fun h => .inr ⟨rfl, up.mono hS k h.2⟩) fun _ _ => rfl)
theorem DP {h : Array Obj} {t : Ty} {vs : List Value} {x : t.den} {f : Bool} (H : bm h (S2 SA N0 f) t vs x) : bm h (S2 SA N0 (!(cE t))) t vs x := by
 refine JP (S := SA) (fun h => by simpa using h) (fun _ h => h) ?_
 cases f
 ·exact .inr H
 ·exact .inl H
theorem hJ {i : Nat} : ∀ {l : List eZ} {j : Nat} {p : cR l} {vs : List Value} {bs : List Nat}, cH w SA N0 l p vs bs → bs.Nodup →
  (dQ i j l p).2.2 = j + aE l ∧ ∃ β, fq w SA N0 β (dQ i j l p).2.1 (gS i j) (gS i (j + aE l)) bs ∧ ao w.heap SA N0 β (dQ i j l p).1 vs ∧
   ∀ n ∈ (dQ i j l p).1.flatMap aq, gS i j ≤ n ∧ n < gS i (j + aE l)
 | [], j, p, vs, bs, ⟨h1, h2⟩, _ => by
  subst h1 h2
  exact ⟨rfl, fun _ => undef, .nil, rfl, fun n hn => by simp [dQ] at hn⟩
 | .val t f :: l, j, p, _, bs, ⟨v, r, rfl, h1, h2⟩, hnd => by
  obtain ⟨k1, β, k2, k3, k4⟩ := hJ (i := i) (j := j) h2 hnd
  refine ⟨k1, β, k2, ⟨v, r, rfl, DP h1, k3⟩, fun n hn => ?_⟩
  simp only [dQ, List.flatMap_cons, aq, List.nil_append] at hn
  exact k4 n hn
 | .row t et f :: l, j, p, _, _, ⟨v, r, cells, b, rfl, rfl, h0, h1, h2⟩, hnd => by
  obtain ⟨k1, β, k2, k3, k4⟩ := hJ (i := i) (j := j + 1) h2 (List.nodup_append.1 hnd).2.1
  have hc : j + aE (.row t et f :: l) = j + 1 + aE l := by simp only [aE]; omega
  rw [hc]
  have hlt : gS i j < gS i (j + 1 + aE l) := by simp only [gS]; omega
  rw [qp] at k2
  have hne : ∀ n, gS i j + 1 ≤ n → AU β (gS i j) v n = β n := fun n h => ny v (by omega)
  refine ⟨k1, AU β (gS i j) v, k2.cons hlt (ov := .row t et p.1 (!(cE t)) 2) ⟨cells, by rw [bT]; exact h0, h1.mono fun _ _ hr => DP hr⟩ rfl (fun n hn => by simp [OV.names] at hn) trivial hnd,
   ⟨v, r, rfl, ⟨(bT _ _).symm, iq h0⟩, wI (fun n hn => hne n (by have := (k4 n hn).1; rw [qp] at this; exact this)) k3⟩, fun n hn => ?_⟩
  simp only [dQ, List.flatMap_cons, aq, List.singleton_append, List.mem_cons] at hn
  rcases hn with rfl | hn
  ·exact ⟨Nat.le_refl _, hlt⟩
  ·have := k4 n hn
   rw [qp] at this
   omega
theorem wJ {i j : Nat} {cs : List eZ} {p : cR cs} {v : Value} (H : kF w SA N0 cs p v bs) (hnd : bs.Nodup) :
  (dQ i (j + 1) cs p).2.2 = j + 1 + aE cs ∧ ∃ β, fq w SA N0 β ((gS i j, some (.box (dQ i (j + 1) cs p).1 2)) :: (dQ i (j + 1) cs p).2.1) (gS i j) (gS i (j + 1 + aE cs)) bs ∧ β (gS i j) = v ∧
   ∃ g, v = .pointer (some ⟨g, 0, none⟩) := by
 obtain ⟨g, arr, et, b, rfl, harr, hc, rfl⟩ := H
 obtain ⟨k1, β, k2, k3, k4⟩ := hJ (i := i) (j := j + 1) hc (List.nodup_cons.1 hnd).2
 have hlt : gS i j < gS i (j + 1 + aE cs) := by simp only [gS]; omega
 rw [qp] at k2
 have hne : ∀ n, gS i j + 1 ≤ n → AU β (gS i j) (.pointer (some ⟨g, 0, none⟩)) n = β n := fun n h => ny _ (by omega)
 have hn : ∀ n ∈ (dQ i (j + 1) cs p).1.flatMap aq, gS i j + 1 ≤ n ∧ n < gS i (j + 1 + aE cs) := fun n hn => by
  have := k4 n hn
  rw [qp] at this
  exact this
 exact ⟨k1, AU β (gS i j) (.pointer (some ⟨g, 0, none⟩)), k2.cons hlt (ov := .box _ 2) ⟨g, arr, et, bT _ _, harr, wI (fun n h => hne n (hn n h).1) k3⟩ rfl hn trivial (by simpa [bo] using hnd), bT _ _, g, rfl⟩
theorem sA {i : Nat} : ∀ {l : List (List eZ)} {j : Nat} {p : cR l.flatten} {ps : List Value} {bs : List Nat}, fg w SA N0 l p ps bs → bs.Nodup →
  ∃ β, fq w SA N0 β (jG i j l p).2 (gS i j) (gS i (j + (b6 l + l.length))) bs ∧ ps = (jG i j l p).1.map β ∧ ∀ o ∈ (jG i j l p).1, gS i j ≤ o ∧ o < gS i (j + (b6 l + l.length)) ∧ ∃ g, β o = .pointer (some ⟨g, 0, none⟩)
 | [], j, p, ps, bs, ⟨h1, h2⟩, _ => by
  subst h1 h2
  exact ⟨fun _ => undef, .nil, rfl, fun o ho => by simp [jG] at ho⟩
 | cs :: l, j, p, _, _, ⟨v, r, b1, b2, rfl, rfl, h1, h2⟩, hnd => by
  obtain ⟨n1, n2, _⟩ := List.nodup_append.1 hnd
  obtain ⟨k1, β1, k2, k3, g, k4⟩ := wJ (i := i) (j := j) h1 n1
  obtain ⟨β2, q1, q2, q3⟩ := sA (i := i) (j := j + 1 + aE cs) h2 n2
  have hc : j + (b6 (cs :: l) + (cs :: l).length) = j + 1 + aE cs + (b6 l + l.length) := by simp only [b6, List.length_cons]; omega
  rw [hc]
  have ha := k2.append q1 (by simp only [gS]; omega) (by simp only [gS]; omega) hnd
  have e2 : ∀ o, o ∈ (jG i (j + 1 + aE cs) l (cR.split cs l.flatten p).2).1 → glue (gS i (j + 1 + aE cs)) β1 β2 o = β2 o := fun o ho => if_neg (by have := (q3 o ho).1; omega)
  have e1 : glue (gS i (j + 1 + aE cs)) β1 β2 (gS i j) = v := by
   rw [← k3]
   exact if_pos (by simp only [gS]; omega)
  refine ⟨_, by simp only [jG]; rw [k1]; exact ha, ?_, fun o ho => ?_⟩
  ·simp only [jG, k1, List.map_cons, e1]
   rw [q2]
   congr 1
   exact List.map_congr_left fun o ho => (e2 o ho).symm
  ·simp only [jG, k1, List.mem_cons] at ho
   rcases ho with rfl | ho
   ·exact ⟨Nat.le_refl _, by simp only [gS]; omega, g, by rw [e1]; exact k4⟩
   ·obtain ⟨a1, a2, g', a3⟩ := q3 o ho
    exact ⟨by have : gS i j ≤ gS i (j + 1 + aE cs) := by simp only [gS]; omega
              omega, a2, g', by rw [e2 o ho]; exact a3⟩
theorem jH {SF : Loc → Prop} : ∀ {l : List eZ} {p : cR l} {vs : List Value} {bs : List Nat}, cH w SA SF l p vs bs → l.all isVal = true → bs = []
 | [], _, _, _, h, _ => h.2
 | .val _ _ :: l, _, _, _, ⟨_, _, _, _, h⟩, hv => jH h (by simpa [isVal] using hv)
 | .row _ _ _ :: l, _, _, _, _, hv => by simp [isVal] at hv
theorem fq.GI {hi' : Nat} (H : fq w SA N0 β L lo hi bs) (h : hi ≤ hi') : fq w SA N0 β L lo hi' bs :=
 ⟨fun o ov ho => let ⟨h1, h2, h3, h4, h5, h6, h7⟩ := H.mem o ov ho; ⟨h1, by omega, h3, h4, h5, fun n hn => ⟨(h6 n hn).1, by have := (h6 n hn).2; omega⟩, h7⟩, H.inj⟩
theorem fq.sub {bs' : List Nat} (H : fq w SA N0 β L lo hi bs) (h : ∀ g ∈ bs, g ∈ bs') : fq w SA N0 β L lo hi bs' :=
 ⟨fun o ov ho => let ⟨h1, h2, h3, h4, h5, h6⟩ := H.mem o ov ho; ⟨h1, h2, h3, h4, fun g hg => h g (h5 g hg), h6⟩, H.inj⟩
theorem DQ {i : Nat} {p : kC} {q : cR p.flat} {v : Value} {ps : List Value} {ms : List Nat} (H : y6 w SA N0 p q v ps bs ms) (hnd : (bs ++ ms).Nodup) (hc : vG p ≤ 64) :
  ∃ β, eg w.heap SA N0 β (yD i p q).1 v ∧ fq w SA N0 β (yD i p q).2 (gS i 0) (gS (i + 1) 0) (bs ++ ms) ∧ ∀ n ∈ (yD i p q).1.names, gS i 0 ≤ n ∧ n < gS (i + 1) 0 := by
 have hw : ∀ k, k ≤ 64 → gS i (0 + k) ≤ gS (i + 1) 0 := fun k hk => by simp only [gS]; omega
 cases p with
 | cell c =>
  obtain ⟨_, rfl, h4⟩ := H
  obtain ⟨k1, β, k2, k3, k4⟩ := hJ (i := i) (j := 0) h4 hnd
  have hc' : aE [c] ≤ 64 := hc
  have hle := hw _ hc'
  have hx : ∃ x, (dQ i 0 [c] q).1 = [x] := by cases c <;> exact ⟨_, rfl⟩
  obtain ⟨x, hx⟩ := hx
  have e1 : yD i (.cell c) q = (.cell x, (dQ i 0 [c] q).2.1) := by simp only [yD, hx]
  rw [hx] at k3 k4
  obtain ⟨v', r, hv, h5, _⟩ := k3
  cases hv
  rw [e1]
  exact ⟨β, h5, k2.GI hle, fun n hn => by
   have := k4 n (by simpa [SV.names] using hn)
   exact ⟨this.1, by omega⟩⟩
 | agg cs =>
  obtain ⟨_, rfl, us, rfl, h4⟩ := H
  obtain ⟨k1, β, k2, k3, k4⟩ := hJ (i := i) (j := 0) h4 hnd
  have hc' : aE cs ≤ 64 := hc
  have hle := hw _ hc'
  exact ⟨β, ⟨us, rfl, k3⟩, k2.GI hle, fun n hn => by
   have := k4 n hn
   exact ⟨this.1, by omega⟩⟩
 | box cs =>
  obtain ⟨_, rfl, h2⟩ := H
  rw [List.append_nil] at hnd ⊢
  obtain ⟨k1, β, k2, k3, g, k4⟩ := wJ (i := i) (j := 0) h2 hnd
  simp only [vG] at hc
  refine ⟨β, ⟨g, by rw [k3, k4], k4⟩, k2.GI (by simp only [gS]; omega), fun n hn => ?_⟩
  ·simp only [yD, SV.names, aq, List.mem_singleton] at hn
   subst hn
   exact ⟨Nat.le_refl _, by simp only [gS]; omega⟩
 | fn f l =>
  obtain ⟨rfl, rfl, h2⟩ := H
  rw [List.append_nil] at hnd ⊢
  obtain ⟨β, k1, k2, k3⟩ := sA (i := i) (j := 0) h2 hnd
  simp only [vG] at hc
  have := hw _ hc
  exact ⟨β, ⟨by rw [k2], fun o ho => (k3 o ho).2.2⟩, k1.GI this, fun n hn => ⟨(k3 n hn).1, by have := (k3 n hn).2.1; omega⟩⟩
 | ad et t off =>
  obtain ⟨_, rfl, rfl, g, C, h1, h2⟩ := H
  exact ⟨fun _ => undef, ⟨g, C, h1, h2⟩, .nil, fun n hn => by cases hn⟩
theorem wK : ∀ {ins : List kC} {i : Nat} {q : cR (ins.flatMap kC.flat)} {vs ps : List Value} {bs ms : List Nat}, gU w SA N0 ins q vs ps bs ms → (bs ++ ms).Nodup → (∀ p ∈ ins, vG p ≤ 64) →
  vs.length = ins.length ∧ ∃ β, (∀ s sv, (yE i ins q).slot s = some sv → i ≤ s ∧ s < i + vs.length ∧ eg w.heap SA N0 β sv (vs.getD (s - i) undef) ∧ ∀ n ∈ sv.names, gS i 0 ≤ n ∧ n < gS (i + ins.length) 0) ∧
   fq w SA N0 β (yE i ins q).aY (gS i 0) (gS (i + ins.length) 0) (bs ++ ms)
 | [], i, q, vs, ps, bs, ms, ⟨h1, h2, h3, h4⟩, _, _ => by
  subst h1 h2 h3 h4
  exact ⟨rfl, fun _ => undef, fun s sv h => (by cases h), .nil⟩
 | p :: ins, i, q, _, _, _, _, ⟨v, r, p1, p2, b1, b2, m1, m2, rfl, rfl, rfl, rfl, h1, h2⟩, hnd, hc => by
  have hperm : ((b1 ++ b2) ++ (m1 ++ m2)).Perm ((b1 ++ m1) ++ (b2 ++ m2)) := by
   rw [List.append_assoc, List.append_assoc]
   refine List.Perm.append_left _ ?_
   rw [← List.append_assoc, ← List.append_assoc]
   exact List.Perm.append_right _ List.perm_append_comm
  have hnd := hperm.nodup_iff.1 hnd
  obtain ⟨n1, n2, _⟩ := List.nodup_append.1 hnd
  obtain ⟨β1, k1, k2, k3⟩ := DQ (i := i) h1 n1 (hc p (List.mem_cons_self ..))
  obtain ⟨hlen, β2, q1, q2⟩ := wK (i := i + 1) h2 n2 (fun p hp => hc p (List.mem_cons_of_mem _ hp))
  have hl : i + (p :: ins).length = i + 1 + ins.length := by simp only [List.length_cons]; omega
  rw [hl]
  have hmid : gS i 0 ≤ gS (i + 1) 0 := by simp only [gS]; omega
  have hmid2 : gS (i + 1) 0 ≤ gS (i + 1 + ins.length) 0 := by simp only [gS]; omega
  have hone : gS (i + 1) 0 = gS i 0 + 64 := by simp only [gS]; omega
  refine ⟨by simp [hlen], glue (gS (i + 1) 0) β1 β2, fun s sv h => ?_, (k2.append q2 hmid hmid2 hnd).sub fun g hg => hperm.mem_iff.2 hg⟩
  simp only [Env.slot, yE, dz] at h
  split at h
  ·subst_vars
   cases h
   refine ⟨Nat.le_refl _, by simp, ?_, fun n hn => ⟨(k3 n hn).1, by have := (k3 n hn).2; omega⟩⟩
   rw [Nat.sub_self]
   exact eg.mono (fun _ h => h) (fun _ _ => rfl) (fun n hn => if_pos (k3 n hn).2) k1
  ·obtain ⟨a1, a2, a3, a4⟩ := q1 s sv h
   refine ⟨by omega, by simp only [List.length_cons]; omega, ?_, fun n hn => ⟨by have := (a4 n hn).1; omega, (a4 n hn).2⟩⟩
   rw [show s - i = (s - (i + 1)) + 1 by omega]
   simp only [List.getD_cons_succ]
   exact eg.mono (fun _ h => h) (fun _ _ => rfl) (fun n hn => if_neg (by have := (a4 n hn).1; omega)) a3
end
end Go.Px
namespace Go.Px
open Go
def fJ (β : Nat → Value) (o : Nat) : List Nat := (bo (β o)).toList
section
variable {P : Program} {T : Types} {c : Ctx} {β : Nat → Value} {SF SF' : Loc → Prop} {e e' ez : Env} {a : Act} {w : World}
def P9 (e : Env) (o : Nat) : Prop := ∃ (t : Ty) (et : Nat) (xs : List t.den) (f : Bool) (st : Nat), e.obj o = some (.row t et xs f st) ∧ (st = 0 ∨ st = 1)
theorem wM : ∀ {zs : List Nat} {e' : Env} {SF : Loc → Prop}, Fm e e' → aC c β SF e' a w → (∀ o ∈ zs, P9 e o) →
  ∃ SF' e'', (∀ k, SF k → SF' k) ∧ Fm e e'' ∧ aC c β SF' e'' a w ∧ (∀ o ∈ zs, ∀ (t : Ty) (et : Nat) (xs : List t.den) (f : Bool) (st : Nat), e.obj o = some (.row t et xs f st) → e''.obj o = some (.row t et xs f 1)) ∧ ∀ o, o ∉ zs → e''.obj o = e'.obj o
 | [], e', SF, F, H, _ => ⟨SF, e', fun _ h => h, F, H, fun o ho => (by cases ho), fun _ _ => rfl⟩
 | o :: zs, e', SF, F, H, hz => by
  obtain ⟨t, et, xs, f, st, ho, hst⟩ := hz o (List.mem_cons_self ..)
  have key : ∀ (e1 : Env) (SF1 : Loc → Prop), (∀ k, SF k → SF1 k) → Fm e e1 → aC c β SF1 e1 a w → e1.obj o = some (.row t et xs f 1) → (∀ n, n ≠ o → e1.obj n = e'.obj n) →
    ∃ SF' e'', (∀ k, SF k → SF' k) ∧ Fm e e'' ∧ aC c β SF' e'' a w ∧ (∀ n ∈ o :: zs, ∀ (t : Ty) (et : Nat) (xs : List t.den) (f : Bool) (st : Nat), e.obj n = some (.row t et xs f st) → e''.obj n = some (.row t et xs f 1)) ∧ ∀ n, n ∉ o :: zs → e''.obj n = e'.obj n := by
   intro e1 SF1 h1 h2 h3 h4 h5
   obtain ⟨SF2, e2, k1, k2, k3, k4, k5⟩ := wM h2 h3 (fun n hn => hz n (List.mem_cons_of_mem _ hn))
   refine ⟨SF2, e2, fun k hk => k1 k (h1 k hk), k2, k3, fun n hn t' et' xs' f' st' hn' => ?_, fun n hn => ?_⟩
   ·by_cases hm : n ∈ zs
    ·exact k4 n hm t' et' xs' f' st' hn'
    ·have : n = o := (List.mem_cons.1 hn).resolve_right hm
     subst this
     rw [ho] at hn'
     cases hn'
     rw [k5 _ hm, h4]
   ·rw [List.mem_cons, not_or] at hn
    rw [k5 n hn.2, h5 n hn.1]
  rcases F.aY _ _ ho with h1 | ⟨t', et', xs', f', h1, h2⟩
  ·rcases hst with rfl | rfl
   ·refine key (e'.put (.obj o (some (.row t et xs f 1)))) (fz SF (β o)) fz.sub ⟨F.bk, fun n ov hn => ?_, fun n ov hn => ?_⟩ (H.freeze h1) (by rw [ai, if_pos rfl]) (fun n hn => by rw [ai, if_neg fun h => hn h.symm])
    ·rw [ai]
     by_cases hc : o = n
     ·subst hc
      rw [ho] at hn
      cases hn
      exact .inr ⟨t, et, xs, f, rfl, if_pos rfl⟩
     ·rw [if_neg hc]; exact F.aY _ _ hn
    ·rw [ai] at hn
     by_cases hc : o = n
     ·subst hc
      rw [if_pos rfl] at hn
      cases hn
      exact ⟨_, ho, rfl⟩
     ·rw [if_neg hc] at hn; exact F.back _ _ hn
   ·exact key e' SF (fun _ h => h) F H h1 (fun _ _ => rfl)
  ·cases h1
   exact key e' SF (fun _ h => h) F H h2 (fun _ _ => rfl)
theorem Fx {x cl : Cell} {ws : List W} (h : settle e x = some (cl, ws)) : ∀ o ∈ rn x, P9 e o := by
 intro o ho
 cases x <;> simp only [rn, List.not_mem_nil, List.mem_singleton] at ho
 subst ho
 unfold settle at h
 simp only at h
 split at h
 ·rename_i t et xs f h1; exact ⟨t, et, xs, f, _, h1, .inl rfl⟩
 ·rename_i t et xs f h1; exact ⟨t, et, xs, f, _, h1, .inr rfl⟩
 ·cases h
theorem Am (H : aC c β SF' ez a w) (hS : ∀ k, SF k → SF' k) {x cl : Cell} {ws : List W} (h : settle e x = some (cl, ws)) (hz : ∀ o ∈ rn x, ∀ (t : Ty) (et : Nat) (xs : List t.den) (f : Bool) (st : Nat), e.obj o = some (.row t et xs f st) → ez.obj o = some (.row t et xs f 1))
  {v : Value} (hv : aG w.heap c.SA SF β x v) : aG w.heap c.SA SF' β cl v := by
 have hr : ∀ (o : Nat) (t : Ty) (et : Nat) (xs : List t.den) (f : Bool) (st : Nat), x = .row o → e.obj o = some (.row t et xs f st) → aG w.heap c.SA SF' β (.val (.slice t) xs f) v := by
  rintro o t et xs f st rfl ho
  have h1 := hz o (by simp [rn]) t et xs f st ho
  refine im (SF := SF') (H.aY _ _ h1) (fun _ h => h) (fun g hg => ?_) (hv.mono hS (fun _ _ => rfl) (fun _ _ => rfl))
  rcases (H.own _ _ g h1 hg).2 with h | h | h
  ·exact absurd h.1 (by simp [OV.st])
  ·exact h.2
  ·exact absurd h.1 (by simp [OV.st])
 unfold settle at h
 split at h
 ·cases h; exact hv.mono hS (fun _ _ => rfl) (fun _ _ => rfl)
 ·cases h; exact hv
 ·rename_i o
  split at h
  ·rename_i t et xs f h1; cases h; exact hr o t et xs f _ rfl h1
  ·rename_i t et xs f h1; cases h; exact hr o t et xs f _ rfl h1
  ·cases h
 ·cases h
theorem Ln {h : Array Obj} {SA : Nat → Prop} {SF : Loc → Prop} {t : Ty} {cl : Cell} {x : t.den} {v : Value} {f : Bool} (H : aG h SA SF β cl v) (hx : cl.as t = some x) (hf : (!f || cl.fr || !(cE t)) = true) : bm h (S2 SA SF f) t [v] x := by
 cases f with
 | false => exact BN H hx (fun h => by cases h)
 | true =>
  cases hc : cl.fr with
  | true => exact BN H hx (fun _ => hc)
  | false =>
   rw [hc] at hf
   have : cE t = false := by simpa using hf
   exact bm.lT (S2.yJ _) this (BN (f := false) H hx (fun h => by cases h))
theorem eh {eN : Bool} (hS : ∀ k, SF k → SF' k) (H : aC c β SF' ez a w) : ∀ {l : List eZ} {xs : List Cell} {p : cR l} {zs rs : List Nat} {vs : List Value}, gq e eN l xs = some (p, zs, rs) → ao w.heap c.SA SF β xs vs →
  (∀ o ∈ zs, P9 e o) ∧ (∀ o ∈ rs, ∃ ov, e.obj o = some ov ∧ (ov.st = 0 ∨ eN = true ∧ ov.st = 2) ∧ ov.flat) ∧
  ((∀ o ∈ zs, ∀ (t : Ty) (et : Nat) (xs : List t.den) (f : Bool) (st : Nat), e.obj o = some (.row t et xs f st) → ez.obj o = some (.row t et xs f 1)) → (∀ o ∈ rs, ez.obj o = e.obj o) → cH w c.SA SF' l p vs (rs.flatMap (fJ β)))
 | [], [], _, _, _, _, h, hv => by
  simp only [gq] at h
  cases h
  exact ⟨fun o ho => (by cases ho), fun o ho => (by cases ho), fun _ _ => ⟨hv, rfl⟩⟩
 | [], _ :: _, _, _, _, _, h, _ => by simp only [gq] at h; cases h
 | .val _ _ :: _, [], _, _, _, _, h, _ => by simp only [gq] at h; cases h
 | .row _ _ _ :: _, [], _, _, _, _, h, _ => by simp only [gq] at h; cases h
 | .val t f :: l, x :: xs, p, zs, rs, _, h, ⟨v, r, rfl, h1, h2⟩ => by
  simp only [gq] at h
  split at h
  ·rename_i q zs' rs' hq
   split at h
   ·rename_i cl ws hset
    obtain ⟨hf, h⟩ := cy h
    split at h
    ·rename_i z hz
     cases h
     obtain ⟨k1, k2, k3⟩ := eh hS H hq h2
     refine ⟨fun o ho => ?_, k2, fun a1 a2 => ⟨v, r, rfl, ?_, k3 (fun o ho => a1 o (List.mem_append_right _ ho)) a2⟩⟩
     ·rcases List.mem_append.1 ho with ho | ho
      ·exact Fx hset o ho
      ·exact k1 o ho
     ·exact Ln (Am H hS hset (fun o ho => a1 o (List.mem_append_left _ ho)) h1) hz hf
    ·cases h
   ·cases h
  ·cases h
 | .row t et f :: l, x :: xs, p, zs, rs, _, h, ⟨v, r, rfl, h1, h2⟩ => by
  simp only [gq] at h
  split at h
  ·rename_i q zs' rs' hq
   obtain ⟨k1, k2, k3⟩ := eh hS H hq h2
   split at h
   ·cases h
    have hv : v = .slice none 0 0 := h1
    subst hv
    exact ⟨k1, k2, fun a1 a2 => ⟨_, r, [], _, rfl, rfl, World.dW _ _ _ _, rfl, k3 a1 a2⟩⟩
   ·rename_i o
    split at h
    ·rename_i t' et' xs' f' st ho
     obtain ⟨hc, h'⟩ := cy h
     clear h
     simp only [Bool.and_eq_true, Nat.beq_eq, Bool.or_eq_true] at hc
     obtain ⟨rfl, hfl, hst⟩ := hc
     split at h'
     ·rename_i z hz
      obtain ⟨rfl, hz⟩ := fX hz
      cases hz
      cases h'
      refine ⟨k1, fun n hn => ?_, fun a1 a2 => ?_⟩
      ·rcases List.mem_cons.1 hn with rfl | hn
       ·exact ⟨_, ho, hst, trivial⟩
       ·exact k2 n hn
      ·have ho' : ez.obj o = some (.row t' et xs' f' st) := by rw [a2 o (List.mem_cons_self ..)]; exact ho
       obtain ⟨hv, _⟩ := h1
       obtain ⟨cells, g1, g2⟩ := H.aY _ _ ho'
       refine ⟨v, r, cells, rs'.flatMap (fJ β), rfl, by rw [List.flatMap_cons, fJ, ← hv], by rw [hv]; exact g1, g2.mono fun _ _ hr => ?_, k3 a1 (fun n hn => a2 n (List.mem_cons_of_mem _ hn))⟩
       cases f with
       | false => exact bm.mono (S2.xq f' false fun h => rfl) (fun _ _ => rfl) hr
       | true =>
        cases f' with
        | true => exact hr
        | false => exact bm.lT (S2.yJ _) (by simpa using hfl) hr
     ·cases h'
    ·cases h
   ·cases h
  ·cases h
theorem c6 : ∀ (a b : List eZ) (p : cR a) (q : cR b), cR.split a b (cR.append a b p q) = (p, q)
 | [], _, _, _ => rfl
 | _ :: a, b, p, q => by
  simp only [cR.append, cR.split, c6 a b p.2 q]
  rfl
def vT (tmps : Array Value) : ResultVar → Sem Value
 | .tmp t => pure (tmps.getD t undef)
 | .cell a t => do loadVar t (← asAddr (tmps.getD a undef))
theorem uy (HT : mL P T) (H : aC c β SF e a w) {k : Nat} {r : ResultVar} {xs : List Cell} {ns : List Nat} (h : BK T e k r = some (xs, ns)) :
  ∃ v, (vT a.tmps r).run P w = .ok v w ∧ ((k ≠ 2 ∧ ns = [] ∧ ∃ us, ao w.heap c.SA SF β xs us ∧ v = valOf (Nat.beq k 1) us) ∨
   (k = 2 ∧ ∃ o g arr et, ns = [o] ∧ e.obj o = some (.box xs 0) ∧ β o = .pointer (some ⟨g, 0, none⟩) ∧ v = .pointer (some ⟨g, 0, none⟩) ∧ w.heap[g]? = some (.cells arr et (0, 0)) ∧ ao w.heap c.SA SF β xs arr.toList)) := by
 cases r with
 | tmp t =>
  refine ⟨a.tmps.getD t undef, rfl, ?_⟩
  simp only [BK] at h
  split at h
  ·rename_i cl hs
   cases h
   exact .inl ⟨by omega, rfl, [a.tmps.getD t undef], .cons (H.bk _ _ hs).2 .nil, rfl⟩
  ·rename_i cs hs
   cases h
   obtain ⟨_, vs, h1, h2⟩ := H.bk _ _ hs
   exact .inl ⟨by omega, rfl, vs, h2, h1⟩
  ·rename_i o hs
   split at h
   ·rename_i xs' ho
    cases h
    obtain ⟨_, g, h1, h2⟩ := H.bk _ _ hs
    obtain ⟨g', arr, et, h3, h4, h5⟩ := H.aY _ _ ho
    rw [h1] at h3
    cases h3
    exact .inr ⟨rfl, o, g, arr, et, rfl, ho, h1, h2, h4, h5⟩
   ·cases h
  ·cases h
 | cell ad t =>
  simp only [BK] at h
  split at h
  ·rename_i i o hi hs
   split at h
   ·rename_i xs' st ho
    obtain ⟨hlen, h'⟩ := cy h
    clear h
    simp only [Nat.beq_eq] at hlen
    obtain ⟨_, g, h1, h2⟩ := H.bk _ _ hs
    obtain ⟨g', arr, et, h3, h4, h5⟩ := H.aY _ _ ho
    rw [h1] at h3
    cases h3
    have hl := h5.len
    rw [Array.length_toList] at hl
    have hload : (i.isAgg = false → i.size = 1) → (vT a.tmps (.cell ad t)).run P w = .ok (valOf i.isAgg arr.toList) w := fun hsz => by
     have := qf HT hi h4 (off := 0) (by omega) hsz
     simp only [Instr.loadAt, Instr.sureAddr, Sem.run_bind, Sem.run_pure, Result.andThen_ok, List.drop_zero] at this
     rw [List.take_of_length_le (by rw [Array.length_toList]; omega)] at this
     simp only [vT, h2, asAddr, Sem.run_bind, Sem.run_pure, Result.andThen_ok, this]
    split at h'
    ·rename_i hag
     obtain ⟨hsz, h''⟩ := cy h'
     simp only [Nat.beq_eq] at hsz
     cases h''
     exact ⟨_, hload fun _ => hsz, .inl ⟨by omega, rfl, arr.toList, h5, by rw [hag]; rfl⟩⟩
    ·rename_i hag
     cases h'
     exact ⟨_, hload fun hf => (by rw [hag] at hf; cases hf), .inl ⟨by omega, rfl, arr.toList, h5, by rw [hag]; rfl⟩⟩
    ·cases h'
   ·cases h
  ·cases h
def y8 (e ez : Env) (zs rs : List Nat) : Prop :=
 (∀ o ∈ zs, ∀ (t : Ty) (et : Nat) (xs : List t.den) (f : Bool) (st : Nat), e.obj o = some (.row t et xs f st) → ez.obj o = some (.row t et xs f 1)) ∧ ∀ o ∈ rs, ez.obj o = e.obj o
theorem y8.sub {zs rs zs' rs' : List Nat} (h : y8 e ez zs rs) (h1 : ∀ o ∈ zs', o ∈ zs) (h2 : ∀ o ∈ rs', o ∈ rs) : y8 e ez zs' rs' := ⟨fun o ho => h.1 o (h1 o ho), fun o ho => h.2 o (h2 o ho)⟩
theorem wN {eN : Bool} : ∀ {rs : List ResultVar} {l : List (Nat × List eZ)} {q : cR (aK l)} {zs ms : List Nat}, mL P T → aC c β SF e a w → ry T e eN rs l = some (q, zs, ms) →
  (∀ o ∈ zs, P9 e o) ∧ ∀ o ∈ ms, ∃ ov, e.obj o = some ov ∧ (ov.st = 0 ∨ eN = true ∧ ov.st = 2) ∧ ov.flat
 | [], [], _, _, _, _, _, h => by cases h; exact ⟨fun o ho => (by cases ho), fun o ho => (by cases ho)⟩
 | [], _ :: _, _, _, _, _, _, h => by cases h
 | _ :: _, [], _, _, _, _, _, h => by cases h
 | r :: rs, bc :: l, q, zs, ms, HT, H, h => by
  simp only [ry] at h
  split at h
  ·rename_i xs ns q' zs' ms' h1 h2
   split at h
   ·rename_i p zs1 ms1 h3
    cases h
    obtain ⟨k1, k2⟩ := wN HT H h2
    obtain ⟨v, _, hv⟩ := uy HT H h1
    have hc : ∃ us, ao w.heap c.SA SF β xs us := hv.elim (fun h => let ⟨_, _, us, h, _⟩ := h; ⟨us, h⟩) (fun h => let ⟨_, _, _, arr, _, _, _, _, _, _, h⟩ := h; ⟨_, h⟩)
    obtain ⟨us, hus⟩ := hc
    obtain ⟨g1, g2, _⟩ := eh (fun _ h => h) H h3 hus
    refine ⟨fun o ho => (List.mem_append.1 ho).elim (g1 o) (k1 o), fun o ho => ?_⟩
    rcases List.mem_append.1 ho with ho | ho
    ·rcases List.mem_append.1 ho with ho | ho
     ·rcases hv with ⟨_, hn, _⟩ | ⟨_, o', g, arr, et, hn, ho', _⟩
      ·rw [hn] at ho; cases ho
      ·rw [hn] at ho
       have := List.mem_singleton.1 ho
       subst this
       exact ⟨_, ho', .inl rfl, trivial⟩
     ·exact g2 o ho
    ·exact k2 o ho
   ·cases h
  ·cases h
theorem sB {eN : Bool} (HT : mL P T) (H : aC c β SF e a w) (hS : ∀ k, SF k → SF' k) (HZ : aC c β SF' ez a w) : ∀ {rs : List ResultVar} {l : List (Nat × List eZ)} {q : cR (aK l)} {zs ms : List Nat}, ry T e eN rs l = some (q, zs, ms) → y8 e ez zs ms →
  ∃ us, (rs.mapM (vT a.tmps)).run P w = .ok us w ∧ iK w c.SA SF' l q us (ms.flatMap (fJ β))
 | [], [], _, _, _, h, _ => by cases h; exact ⟨[], rfl, rfl, rfl⟩
 | [], _ :: _, _, _, _, h, _ => by cases h
 | _ :: _, [], _, _, _, h, _ => by cases h
 | r :: rs, bc :: l, q, zs, ms, h, K => by
  simp only [ry] at h
  split at h
  ·rename_i xs ns q' zs' ms' h1 h2
   split at h
   ·rename_i p zs1 ms1 h3
    cases h
    obtain ⟨us, k1, k2⟩ := sB HT H hS HZ h2 (K.sub (fun o ho => List.mem_append_right _ ho) (fun o ho => List.mem_append_right _ ho))
    obtain ⟨v, hv1, hv⟩ := uy HT H h1
    refine ⟨v :: us, by simp [List.mapM_cons, hv1, k1], v, us, (ns ++ ms1).flatMap (fJ β), ms'.flatMap (fJ β), rfl, by rw [List.flatMap_append], ?_, by rw [c6]; exact k2⟩
    rw [c6]
    have kz : ∀ o ∈ zs1, o ∈ zs1 ++ zs' := fun o ho => List.mem_append_left _ ho
    have km : ∀ o ∈ ms1, o ∈ ns ++ ms1 ++ ms' := fun o ho => List.mem_append_left _ (List.mem_append_right _ ho)
    have K1 := K.sub kz km
    rcases hv with ⟨hk, rfl, us', hus, rfl⟩ | ⟨hk, o, g, arr, et, rfl, ho', hb, rfl, harr, hus⟩
    ·obtain ⟨_, _, g3⟩ := eh hS HZ h3 hus
     exact .inr ⟨hk, us', g3 K1.1 K1.2, rfl⟩
    ·obtain ⟨_, _, g3⟩ := eh hS HZ h3 hus
     refine .inl ⟨hk, g, arr, et, _, rfl, harr, g3 K1.1 K1.2, ?_⟩
     simp [fJ, hb, bo]
   ·cases h
  ·cases h
theorem uz (H : aC c β SF e a w) : ∀ {l : List (List eZ)} {os : List Nat} {q : cR l.flatten} {zs ms : List Nat}, nY e l os = some (q, zs, ms) →
  (∀ o ∈ zs, P9 e o) ∧ ∀ o ∈ ms, ∃ ov, e.obj o = some ov ∧ (ov.st = 0 ∨ ov.st = 2) ∧ ov.flat
 | [], [], _, _, _, h => by cases h; exact ⟨fun o ho => (by cases ho), fun o ho => (by cases ho)⟩
 | [], _ :: _, _, _, _, h => by cases h
 | _ :: _, [], _, _, _, h => by cases h
 | cs :: l, o :: os, q, zs, ms, h => by
  simp only [nY] at h
  split at h
  ·rename_i xs ho
   split at h
   ·rename_i p zs1 ms1 q' zs' ms' h3 h2
    cases h
    obtain ⟨k1, k2⟩ := uz H h2
    obtain ⟨g, arr, et, q1, q2, q3⟩ := H.aY _ _ ho
    obtain ⟨g1, g2, _⟩ := eh (fun _ h => h) H h3 q3
    refine ⟨fun o ho => (List.mem_append.1 ho).elim (g1 o) (k1 o), fun n hn => ?_⟩
    rcases List.mem_append.1 hn with hn | hn
    ·rcases List.mem_cons.1 hn with rfl | hn
     ·exact ⟨_, ho, .inr rfl, trivial⟩
     ·obtain ⟨ov, r1, r2, r3⟩ := g2 n hn
      exact ⟨ov, r1, r2.imp id fun h => h.2, r3⟩
    ·exact k2 n hn
   ·cases h
  ·cases h
theorem qq (H : aC c β SF e a w) (hS : ∀ k, SF k → SF' k) (HZ : aC c β SF' ez a w) : ∀ {l : List (List eZ)} {os : List Nat} {q : cR l.flatten} {zs ms : List Nat}, nY e l os = some (q, zs, ms) → y8 e ez zs ms →
  fg w c.SA SF' l q (os.map β) (ms.flatMap (fJ β))
 | [], [], _, _, _, h, _ => by cases h; exact ⟨rfl, rfl⟩
 | [], _ :: _, _, _, _, h, _ => by cases h
 | _ :: _, [], _, _, _, h, _ => by cases h
 | cs :: l, o :: os, q, zs, ms, h, K => by
  simp only [nY] at h
  split at h
  ·rename_i xs ho
   split at h
   ·rename_i p zs1 ms1 q' zs' ms' h3 h2
    cases h
    have k2 := qq H hS HZ h2 (K.sub (fun o ho => List.mem_append_right _ ho) (fun o ho => List.mem_append_right _ ho))
    obtain ⟨g, arr, et, q1, q2, q3⟩ := H.aY _ _ ho
    obtain ⟨_, _, g3⟩ := eh hS HZ h3 q3
    have K1 : y8 e ez zs1 ms1 := K.sub (fun o ho => List.mem_append_left _ ho) (fun o ho => List.mem_append_left _ (List.mem_cons_of_mem _ ho))
    refine ⟨β o, os.map β, (o :: ms1).flatMap (fJ β), ms'.flatMap (fJ β), rfl, by rw [List.flatMap_append], ?_, by rw [c6]; exact k2⟩
    rw [c6]
    refine ⟨g, arr, et, _, q1, q2, g3 K1.1 K1.2, ?_⟩
    simp [fJ, q1, bo]
   ·cases h
  ·cases h
end
end Go.Px
namespace Go.Px
open Go
theorem tz : ∀ {l : List Nat}, nodupB l = true → l.Nodup
 | [], _ => List.nodup_nil
 | x :: l, h => by
  simp only [nodupB, Bool.and_eq_true, Bool.not_eq_true', List.any_eq_false, Nat.beq_eq] at h
  exact List.nodup_cons.2 ⟨fun hm => h.1 x hm rfl, tz h.2⟩
section
variable {P : Program} {T : Types} {c : Ctx} {β : Nat → Value} {SF SF' : Loc → Prop} {e e' ez : Env} {a : Act} {w : World}
theorem lp {o g : Nat} : g ∈ fJ β o ↔ bo (β o) = some g := by
 simp [fJ]
theorem y9 (H : aC c β SF e a w) : ∀ {l : List Nat}, l.Nodup → (∀ o ∈ l, ∃ ov, e.obj o = some ov ∧ ov.flat) → (l.flatMap (fJ β)).Nodup
 | [], _, _ => List.nodup_nil
 | o :: l, hn, ho => by
  obtain ⟨h1, h2⟩ := List.nodup_cons.1 hn
  rw [List.flatMap_cons, List.nodup_append]
  refine ⟨?_, y9 H h2 fun n hn => ho n (List.mem_cons_of_mem _ hn), fun x hx y hy hxy => ?_⟩
  ·unfold fJ
   cases bo (β o) <;> simp
  ·subst hxy
   obtain ⟨n, hn1, hn2⟩ := List.mem_flatMap.1 hy
   obtain ⟨ov, hov, hfl⟩ := ho o (List.mem_cons_self ..)
   obtain ⟨ov', hov', hfl'⟩ := ho n (List.mem_cons_of_mem _ hn1)
   exact H.inj o n ov ov' x (fun h => h1 (h ▸ hn1)) hov hov' (bI.of hfl (lp.1 hx)) (bI.of hfl' (lp.1 hn2))
theorem iw : ∀ {l : List kC} {i s : Nat}, s ∈ eM i l → i ≤ s
 | [], _, _, h => by cases h
 | .cell _ :: l, i, s, h => by have := iw (l := l) (i := i + 1) h; omega
 | .agg _ :: l, i, s, h => by have := iw (l := l) (i := i + 1) h; omega
 | .ad _ _ _ :: l, i, s, h => by have := iw (l := l) (i := i + 1) h; omega
 | .box _ :: l, i, s, h => by
  rcases List.mem_cons.1 h with rfl | h
  ·exact Nat.le_refl _
  ·have := iw (l := l) (i := i + 1) h; omega
 | .fn _ _ :: l, i, s, h => by
  rcases List.mem_cons.1 h with rfl | h
  ·exact Nat.le_refl _
  ·have := iw (l := l) (i := i + 1) h; omega
theorem za (H : aC c β SF e a w) {w0 : World} {SA : Nat → Prop} {N0 : Loc → Prop} : ∀ {ins : List kC} {i : Nat} {q : cR (ins.flatMap kC.flat)} {vs ps : List Value} {bs ms os : List Nat}, gU w0 SA N0 ins q vs ps bs ms →
  (∀ s ∈ eM i ins, a.tmps.getD s undef = vs.getD (s - i) undef) → gF e i ins = some os → ps = os.map β
 | [], i, q, vs, ps, bs, _, os, ⟨_, h2, _⟩, _, h => by
  simp only [gF] at h
  cases h
  exact h2
 | p :: ins, i, q, _, _, _, _, os, ⟨v, r, p1, p2, b1, b2, m1, m2, rfl, rfl, rfl, rfl, h1, h2⟩, hp, h => by
  have htail : ∀ {os}, (∀ s, s ∈ eM (i + 1) ins → s ∈ eM i (p :: ins)) → gF e (i + 1) ins = some os → p2 = os.map β := fun hsub h' =>
   za H h2 (fun s hs => by
    rw [hp s (hsub s hs)]
    have := iw hs
    rw [show s - i = (s - (i + 1)) + 1 by omega]
    rfl) h'
  cases p with
  | cell cc =>
   obtain ⟨rfl, _⟩ := h1
   exact htail (fun s hs => hs) h
  | agg cs =>
   obtain ⟨rfl, _⟩ := h1
   exact htail (fun s hs => hs) h
  | ad _ _ _ =>
   obtain ⟨rfl, _⟩ := h1
   exact htail (fun s hs => hs) h
  | box cs =>
   obtain ⟨rfl, _⟩ := h1
   simp only [gF] at h
   split at h
   ·rename_i o r' hs hr
    cases h
    obtain ⟨_, g, g1, g2⟩ := H.bk _ _ hs
    have hv := hp i (List.mem_cons_self ..)
    rw [Nat.sub_self] at hv
    simp only [List.getD_cons_zero] at hv
    rw [List.map_cons, ← htail (fun s hs => List.mem_cons_of_mem _ hs) hr, g1, ← g2, hv]
    rfl
   ·cases h
  | fn f l =>
   obtain ⟨hv', _⟩ := h1
   simp only [gF] at h
   split at h
   ·rename_i f' os' r' hs hr
    cases h
    obtain ⟨_, g1, g2⟩ := H.bk _ _ hs
    have hv := hp i (List.mem_cons_self ..)
    rw [Nat.sub_self] at hv
    simp only [List.getD_cons_zero] at hv
    rw [g1, hv'] at hv
    rw [List.map_append, ← htail (fun s hs => List.mem_cons_of_mem _ hs) hr]
    congr 1
    simp only [Value.func.injEq] at hv
    have := congrArg Array.toList hv.2.2
    simpa using this.symm
   ·cases h
theorem JQ {α : Type} {f : α → Sem Value} {l : Array α} {us : List Value} (h : (l.toList.mapM f).run P w = .ok us w) : (l.mapM f).run P w = .ok us.toArray w := by
 rw [Array.mapM_eq_mapM_toList]
 simp [h]
theorem DR {fn : Func} {tmps : Array Value} {us : List Value} (h : (fn.results.toList.mapM (vT tmps)).run P w = .ok us w) : (results fn tmps).run P w = .ok (DO us) w := by
 have h1 := JQ h
 have h2 : (results fn tmps) = (do let vs ← fn.results.mapM (vT tmps); pure (if h : vs.size = 1 then vs[0] else .tuple vs)) := by
  unfold results
  congr 1
 rw [h2]
 simp only [Sem.run_bind, h1, Result.andThen_ok, Sem.run_pure, DO]
 congr 1
 match us with
 | [] => rfl
 | [u] => rfl
 | u :: v :: r => rfl
theorem JR {vs : List Value} {N s : Nat} : (vs.toArray ++ Array.replicate (N - vs.length) undef).getD s undef = vs.getD s undef := by
 rw [Array.getD_eq_getD_getElem?, Array.getElem?_append]
 simp only [List.size_toArray]
 split
 ·rename_i h; simp [h]
 ·rename_i h
  rw [List.getD_eq_getElem?_getD, List.getElem?_eq_none (by omega)]
  by_cases h2 : s - vs.length < N - vs.length
  ·simp [h2]
  ·simp [h2]
theorem A5 {w : World} {SA : Nat → Prop} {SF : Loc → Prop} {cs : List eZ} {p : cR cs} {v : Value} {bs : List Nat} (h : kF w SA SF cs p v bs) : (∀ k, Value.pointer (some ⟨k, 0, none⟩) = v → k ∈ bs) ∧ (cs.all isVal = true → ∀ k ∈ bs, Value.pointer (some ⟨k, 0, none⟩) = v) := by
 obtain ⟨g, arr, et, b, rfl, _, h2, rfl⟩ := h
 refine ⟨fun k hk => ?_, fun hv k hk => ?_⟩
 ·cases hk
  exact List.mem_cons_self ..
 ·rw [jH h2 hv] at hk
  rw [List.mem_singleton.1 hk]
theorem tA {w : World} {SA : Nat → Prop} {SF : Loc → Prop} : ∀ {l : List (List eZ)} {p : cR l.flatten} {ps : List Value} {bs : List Nat}, fg w SA SF l p ps bs →
  (∀ k, Value.pointer (some ⟨k, 0, none⟩) ∈ ps → k ∈ bs) ∧ (l.all (fun cs => cs.all isVal) = true → ∀ k ∈ bs, Value.pointer (some ⟨k, 0, none⟩) ∈ ps)
 | [], _, _, _, ⟨h1, h2⟩ => by
  subst h1 h2
  exact ⟨fun k hk => (by cases hk), fun _ k hk => (by cases hk)⟩
 | cs :: l, _, _, _, ⟨v, r, b1, b2, rfl, rfl, h1, h2⟩ => by
  obtain ⟨a1, a2⟩ := A5 h1
  obtain ⟨q1, q2⟩ := tA h2
  refine ⟨fun k hk => ?_, fun hv k hk => ?_⟩
  ·rcases List.mem_cons.1 hk with hk | hk
   ·exact List.mem_append_left _ (a1 k hk)
   ·exact List.mem_append_right _ (q1 k hk)
  ·rw [List.all_cons, Bool.and_eq_true] at hv
   rcases List.mem_append.1 hk with hk | hk
   ·exact List.mem_cons.2 (.inl (a2 hv.1 k hk))
   ·exact List.mem_cons.2 (.inr (q2 hv.2 k hk))
theorem A6 {w : World} {SA : Nat → Prop} {N0 : Loc → Prop} : ∀ {l : List kC} {q : cR (l.flatMap kC.flat)} {vs ps : List Value} {bs ms : List Nat}, gU w SA N0 l q vs ps bs ms →
  (∀ k, Value.pointer (some ⟨k, 0, none⟩) ∈ ps → k ∈ bs) ∧ ((l.flatMap kC.boxes).all (fun cs => cs.all isVal) = true → ∀ k ∈ bs, Value.pointer (some ⟨k, 0, none⟩) ∈ ps) ∧ (l.any Dm = false → ms = [])
 | [], _, _, _, _, _, ⟨_, h2, h3, h4⟩ => by
  subst h2 h3 h4
  exact ⟨fun k hk => (by cases hk), fun _ k hk => (by cases hk), fun _ => rfl⟩
 | p :: l, _, _, _, _, _, ⟨v, r, p1, p2, b1, b2, m1, m2, rfl, rfl, rfl, rfl, h1, h2⟩ => by
  obtain ⟨q1, q2, q3⟩ := A6 h2
  have key : (∀ k, Value.pointer (some ⟨k, 0, none⟩) ∈ p1 → k ∈ b1) ∧ (p.boxes.all (fun cs => cs.all isVal) = true → ∀ k ∈ b1, Value.pointer (some ⟨k, 0, none⟩) ∈ p1) ∧ (Dm p = false → m1 = []) := by
   cases p with
   | cell cc =>
    obtain ⟨rfl, rfl, hc⟩ := h1
    exact ⟨fun k hk => (by cases hk), fun _ k hk => (by cases hk), fun hm => jH hc (by simpa [Dm] using hm)⟩
   | agg cs =>
    obtain ⟨rfl, rfl, us, _, hc⟩ := h1
    exact ⟨fun k hk => (by cases hk), fun _ k hk => (by cases hk), fun hm => jH hc (by simpa [Dm] using hm)⟩
   | ad _ _ _ =>
    obtain ⟨rfl, rfl, rfl, _⟩ := h1
    exact ⟨fun k hk => (by cases hk), fun _ k hk => (by cases hk), fun _ => rfl⟩
   | box cs =>
    obtain ⟨rfl, rfl, hc⟩ := h1
    obtain ⟨a1, a2⟩ := A5 hc
    exact ⟨fun k hk => a1 k (List.mem_singleton.1 hk), fun hv k hk => List.mem_singleton.2 (a2 (by simpa [kC.boxes] using hv) k hk), fun _ => rfl⟩
   | fn f ll =>
    obtain ⟨_, rfl, hc⟩ := h1
    obtain ⟨a1, a2⟩ := tA hc
    exact ⟨a1, a2, fun _ => rfl⟩
  obtain ⟨k1, k2, k3⟩ := key
  refine ⟨fun k hk => ?_, fun hv k hk => ?_, fun hm => ?_⟩
  ·rcases List.mem_append.1 hk with hk | hk
   ·exact List.mem_append_left _ (k1 k hk)
   ·exact List.mem_append_right _ (q1 k hk)
  ·rw [List.flatMap_cons, List.all_append, Bool.and_eq_true] at hv
   rcases List.mem_append.1 hk with hk | hk
   ·exact List.mem_append_left _ (k2 hv.1 k hk)
   ·exact List.mem_append_right _ (q2 hv.2 k hk)
  ·rw [List.any_cons, Bool.or_eq_false_iff] at hm
   rw [k3 hm.1, q3 hm.2]; rfl
theorem uA {A : Type} : ∀ (ms : List (Nat × Ty)) (x : A) (q : mM ms), bN.out ms (bN.mk ms x q) = x
 | [], _, _ => rfl
 | _ :: ms, x, q => uA ms x q.2
theorem BU {A : Type} : ∀ (ms : List (Nat × Ty)) (x : A) (q : mM ms), bN.ms ms (bN.mk ms x q) = q
 | [], _, _ => rfl
 | _ :: ms, x, q => by
  show (q.1, bN.ms ms (bN.mk ms x q.2)) = q
  rw [BU ms x q.2]
  rfl
theorem uB {h : Array Obj} {SA : Nat → Prop} {SF : Loc → Prop} {t : Ty} {et : Nat} {bs : List (Option (List t.den))} (M : dy h SA SF t et bs) : ∃ b, gG SF t et bs b ∧ ∀ g ∈ b, g < h.size := by
 classical
 have hlt : ∀ g, (∃ k xs C, bs[k]? = some (some xs) ∧ SF (.m et (k + 1) g C)) → g < h.size := fun g ⟨k, xs, C, h1, h2⟩ => by
  rcases M.HQ k xs h1 with ⟨_, h3⟩ | ⟨g', C', cur, h3, h4, _⟩
  ·exact absurd h2 (h3 g C)
  ·obtain ⟨rfl, rfl⟩ := M.one _ _ _ _ _ h2 h3
   exact (Array.getElem?_eq_some_iff.1 h4).1
 refine ⟨(List.range h.size).filter fun g => decide (∃ k xs C, bs[k]? = some (some xs) ∧ SF (.m et (k + 1) g C)), ⟨List.Nodup.sublist List.filter_sublist List.nodup_range, fun g => ?_⟩, fun g hg => ?_⟩
 ·rw [List.mem_filter, decide_eq_true_eq, List.mem_range]
  exact ⟨fun h => h.2, fun h => ⟨hlt g h, h⟩⟩
 ·exact List.mem_range.1 (List.mem_filter.1 hg).1
theorem uC (H : aC c β SF e a w) {v : Env} (hv : ∀ o t et bs, v.obj o = some (.mem t et bs) → e.obj o = some (.mem t et bs)) : ∀ {ms : List (Nat × Ty)} {pm : mM ms}, tp v ms = some pm → (aJ ms).Nodup →
  ∃ b, cO w c.SA SF ms pm b ∧ b.Nodup ∧ ∀ g ∈ b, ∃ t et bs, an et ∈ aJ ms ∧ e.obj (an et) = some (.mem t et bs) ∧ bI SF β (an et) (.mem t et bs) g
 | [], _, h, _ => by cases h; exact ⟨[], rfl, List.nodup_nil, fun g hg => (by cases hg)⟩
 | p :: ms, pm, h, hnd => by
  simp only [tp] at h
  split at h
  ·rename_i bs q h1 h2
   cases h
   obtain ⟨n1, n2⟩ := List.nodup_cons.1 hnd
   have ho := hv _ _ _ _ (lK h1)
   have M := (H.aY _ _ ho).2
   obtain ⟨b1, k1, _⟩ := uB M
   obtain ⟨b2, q1, q2, q3⟩ := uC H hv h2 n2
   refine ⟨b1 ++ b2, ⟨b1, b2, rfl, M, k1, q1⟩, List.nodup_append.2 ⟨k1.1, q2, fun x hx y hy hxy => ?_⟩, fun g hg => ?_⟩
   ·subst hxy
    obtain ⟨t, et, bs', r1, r2, r3⟩ := q3 x hy
    exact H.inj _ _ _ _ x (fun h => n1 (show an p.1 ∈ aJ ms by rw [h]; exact r1)) ho r2 ((k1.2 x).1 hx) r3
   ·rcases List.mem_append.1 hg with hg | hg
    ·exact ⟨_, _, _, List.mem_cons_self .., ho, (k1.2 g).1 hg⟩
    ·obtain ⟨t, et, bs', r1, r2, r3⟩ := q3 g hg
     exact ⟨t, et, bs', List.mem_cons_of_mem _ r1, r2, r3⟩
  ·cases h
theorem BV (HT : mL P T) {e0 : Env} (H0 : aC c β SF e0 a w) {fn : Func} {s : bh} {r : s.Out} (h : finish T fn s e0 = some r) {p : cR s.inl} {vs ps : List Value} {bs m1 m2 : List Nat} {N0 : Loc → Prop} (hargs : gU c.w0 c.SA N0 s.ins p vs ps bs m1) (hm2 : s.bA = [] → m2 = [])
  (hbx : (vF s || !(s.bA.isEmpty)) = true → s.boxes.all (fun cs => cs.all isVal) = true)
  (hbor : ∀ k, c.tq k ↔ k ∈ bs ++ (m1 ++ m2)) (hS0 : c.S0 = N0) (hpin : ∀ s' ∈ eM 0 s.ins, a.tmps.getD s' undef = vs.getD s' undef) :
  ∃ v SF' us b1 b2, (results fn a.tmps).run P w = .ok v w ∧ sy c.w0 c.SA N0 bs (m1 ++ m2) ps s r v w SF' us b1 b2 := by
 have hpre : ∃ SF1, aC c β SF1 (cond s.bA.isEmpty e0 (e0.aF (dM e0 (yF fn.results.toList s.outs)))) a w := by
  cases s.bA.isEmpty with
  | true => exact ⟨SF, H0⟩
  | false =>
   obtain ⟨SF1, h1, _⟩ := lY (c := c) (β := β) (a := a) (w := w) (yF fn.results.toList s.outs) ⟨fun _ _ h => h, fun _ _ h => h⟩ H0
   exact ⟨SF1, h1⟩
 obtain ⟨SF, H⟩ := hpre
 unfold finish at h
 simp only at h
 generalize (cond s.bA.isEmpty e0 (e0.aF (dM e0 (yF fn.results.toList s.outs)))) = e at h H
 split at h
 ·rename_i os hos
  split at h
  ·rename_i p1 zs1 ms1 p2 zs2 ms2 pm h1 h2 h3
   obtain ⟨hc, hr⟩ := cy h
   clear h
   cases hr
   simp only [Bool.and_eq_true, Bool.not_eq_true', List.any_eq_false, Bool.not_eq_true] at hc
   obtain ⟨hnd0, hdj⟩ := hc
   have hnd0 := tz hnd0
   obtain ⟨hnd, hndm, hdm⟩ := List.nodup_append.1 hnd0
   have hps : ps = os.map β := za H hargs (fun s' hs => by rw [hpin s' hs]; rfl) hos
   obtain ⟨z1, m1'⟩ := wN HT H h1
   obtain ⟨z2, m2'⟩ := uz H h2
   obtain ⟨SF', ez, hS, FZ, HZ, q4, q5⟩ := wM (zs := zs1 ++ zs2) (Fm.refl e) H (fun o ho => (List.mem_append.1 ho).elim (z1 o) (z2 o))
   have K : y8 e ez (zs1 ++ zs2) (ms1 ++ ms2) := ⟨q4, fun o ho => q5 o fun hz => by
    have := hdj o ho
    rw [yV.2 hz] at this
    cases this⟩
   obtain ⟨us, k1, k2⟩ := sB HT H hS HZ h1 (K.sub (fun o ho => List.mem_append_left _ ho) (fun o ho => List.mem_append_left _ ho))
   have k3 := qq H hS HZ h2 (K.sub (fun o ho => List.mem_append_right _ ho) (fun o ho => List.mem_append_right _ ho))
   obtain ⟨b3, k4, k5, k6⟩ := uC HZ (v := e) (fun o t et bs ho => (FZ.aY _ _ ho).elim id fun ⟨_, _, _, _, h, _⟩ => by cases h) h3 hndm
   obtain ⟨x1, x2, x3⟩ := A6 hargs
   obtain ⟨y1, y2⟩ := tA k3
   have hobj : ∀ o ∈ ms1 ++ ms2, ∃ ov, ez.obj o = some ov ∧ ov.st ≠ 1 ∧ ov.flat := fun o ho => by
    rw [K.2 o ho]
    rcases List.mem_append.1 ho with ho | ho
    ·obtain ⟨ov, a1, a2, a3⟩ := m1' o ho; exact ⟨ov, a1, by omega, a3⟩
    ·obtain ⟨ov, a1, a2, a3⟩ := m2' o ho; exact ⟨ov, a1, by omega, a3⟩
   have hN0 : (ms1.flatMap (fJ β) ++ ms2.flatMap (fJ β)).Nodup := by
    rw [← List.flatMap_append]
    exact y9 H hnd fun o ho => by
     obtain ⟨ov, a1, _, a3⟩ := hobj o ho
     rw [K.2 o ho] at a1
     exact ⟨ov, a1, a3⟩
   have hap : ∀ k ∈ b3, ∀ o ∈ ms1 ++ ms2, k ∉ fJ β o := fun k hk o ho hb => by
    obtain ⟨t, et, bs', r1, r2, r3⟩ := k6 k hk
    obtain ⟨ov, a1, _, a3⟩ := hobj o ho
    exact HZ.inj o (an et) ov _ k (fun h => hdm o ho _ r1 h) a1 r2 (bI.of a3 (lp.1 hb)) r3
   have hN : ((ms1.flatMap (fJ β) ++ b3) ++ ms2.flatMap (fJ β)).Nodup := by
    have : ((ms1.flatMap (fJ β) ++ b3) ++ ms2.flatMap (fJ β)).Perm ((ms1.flatMap (fJ β) ++ ms2.flatMap (fJ β)) ++ b3) := by
     rw [List.append_assoc, List.append_assoc]
     exact List.Perm.append_left _ List.perm_append_comm
    refine this.nodup_iff.2 (List.nodup_append.2 ⟨hN0, k5, fun x hx y hy hxy => ?_⟩)
    subst hxy
    rw [← List.flatMap_append] at hx
    obtain ⟨o, ho, hb⟩ := List.mem_flatMap.1 hx
    exact hap x hy o ho hb
   have hst2 : ∀ (ov : OV) (o k : Nat), ez.obj o = some ov → ov.st ≠ 1 → bI SF' β o ov k → k < w.heap.size ∧ ((ov.st = 2 ∧ k ∈ bs ++ (m1 ++ m2)) ∨ c.w0.heap.size ≤ k) := fun ov o k ho hs hk => by
    obtain ⟨a3, a4⟩ := HZ.own o ov k ho hk
    refine ⟨a3, ?_⟩
    rcases a4 with a4 | a4 | a4
    ·exact .inr a4.2.1
    ·exact absurd a4.1 hs
    ·exact a4.2.elim (fun h => .inl ⟨a4.1, (hbor k).1 h⟩) fun h => .inr h.1
   have hgiv : (vF s || !(s.bA.isEmpty)) = true → ∀ k ∈ ms1.flatMap (fJ β) ++ b3, k ∈ bs ++ (m1 ++ m2) → k ∈ m1 ++ m2 := fun hh k hk hb => by
    rcases List.mem_append.1 hb with h | h
    ·have hb2 := y1 k (by rw [← hps]; exact x2 (hbx hh) k h)
     exact ((List.nodup_append.1 hN).2.2 k hk k hb2 rfl).elim
    ·exact h
   refine ⟨DO us, SF', us, ms1.flatMap (fJ β) ++ b3, ms2.flatMap (fJ β), DR k1, H.os, H.tape, H.output, H.size, fun k hk hb => H.sr k hk (fun h => hb ((hbor k).1 h)), HZ.sf, fun l hl => HZ.mu l (by rw [hS0]; exact hl), ⟨_, _, rfl, ?_, ?_⟩, rfl, ?_, fun k hk => ?_, fun k hk => ?_, fun k hk => ?_, hN⟩
   ·rw [uA, c6]; exact k2
   ·rw [BU]; exact k4
   ·rw [uA, c6, hps]; exact k3
   ·rcases List.mem_append.1 hk with hk' | hk'
    ·obtain ⟨o, ho, hb⟩ := List.mem_flatMap.1 hk'
     obtain ⟨ov, a1, a2, a3⟩ := m1' o ho
     rw [← K.2 o (List.mem_append_left _ ho)] at a1
     obtain ⟨q1, q2⟩ := hst2 ov o k a1 (by omega) (bI.of a3 (lp.1 hb))
     refine ⟨?_, q1⟩
     rcases q2 with ⟨q2, q3⟩ | q2
     ·rcases a2 with a2 | ⟨a2, _⟩
      ·omega
      ·exact .inr (hgiv a2 k hk q3)
     ·exact .inl q2
    ·obtain ⟨t, et, bs', r1, r2, r3⟩ := k6 k hk'
     obtain ⟨q1, q2⟩ := hst2 _ _ k r2 (by simp [OV.st]) r3
     refine ⟨?_, q1⟩
     rcases q2 with ⟨q2, q3⟩ | q2
     ·refine .inr (hgiv ?_ k hk q3)
      cases hms : s.bA with
      | nil => rw [hms] at r1; cases r1
      | cons _ _ => simp
     ·exact .inl q2
   ·have hl : ∃ ov o, ez.obj o = some ov ∧ ov.st ≠ 1 ∧ bI SF' β o ov k := by
     rcases List.mem_append.1 hk with hk | hk
     ·rcases List.mem_append.1 hk with hk | hk
      ·obtain ⟨o, ho, hb⟩ := List.mem_flatMap.1 hk
       obtain ⟨ov, a1, a2, a3⟩ := hobj o (List.mem_append_left _ ho)
       exact ⟨ov, o, a1, a2, bI.of a3 (lp.1 hb)⟩
      ·obtain ⟨t, et, bs', r1, r2, r3⟩ := k6 k hk
       exact ⟨_, _, r2, by simp [OV.st], r3⟩
     ·obtain ⟨o, ho, hb⟩ := List.mem_flatMap.1 hk
      obtain ⟨ov, a1, a2, a3⟩ := hobj o (List.mem_append_right _ ho)
      exact ⟨ov, o, a1, a2, bI.of a3 (lp.1 hb)⟩
    obtain ⟨ov, o, a1, a2, a3⟩ := hl
    exact (HZ.loose a1 a2 a3).2.1
   ·obtain ⟨o, ho, hb⟩ := List.mem_flatMap.1 hk
    obtain ⟨ov, a1, a2, a3⟩ := hobj o (List.mem_append_right _ ho)
    obtain ⟨q1, q2⟩ := hst2 ov o k a1 a2 (bI.of a3 (lp.1 hb))
    refine ⟨q1, ?_⟩
    rcases q2 with ⟨_, q3⟩ | q2
    ·rcases List.mem_append.1 q3 with h | h
     ·exact .inl h
     ·cases hm : (vF s || !(s.bA.isEmpty)) with
      | false =>
       simp only [Bool.or_eq_false_iff, Bool.not_eq_false'] at hm
       rw [x3 hm.1, hm2 (List.isEmpty_iff.1 hm.2)] at h
       cases h
      | true => exact .inl (x1 k (by rw [hps]; exact y2 (hbx hm) k hk))
    ·exact .inr q2
  ·cases h
 ·cases h
theorem jZ {w : World} {SA : Nat → Prop} {SF : Loc → Prop} : ∀ {l : List eZ} {p : cR l} {vs : List Value} {bs : List Nat}, cH w SA SF l p vs bs → ∀ k ∈ bs, k < w.heap.size
 | [], _, _, _, ⟨_, h⟩, k, hk => by subst h; cases hk
 | .val _ _ :: l, _, _, _, ⟨_, _, _, _, h⟩, k, hk => jZ h k hk
 | .row _ _ _ :: l, _, _, _, ⟨v, _, _, _, _, rfl, h1, _, h⟩, k, hk => by
  rcases List.mem_append.1 hk with hk | hk
  ·have hv : bo v = some k := by simpa using hk
   rw [fE (iq h1)] at hv
   exact (h1.lt k hv).2
  ·exact jZ h k hk
theorem A7 {w : World} {SA : Nat → Prop} {SF : Loc → Prop} {cs : List eZ} {p : cR cs} {v : Value} {bs : List Nat} (h : kF w SA SF cs p v bs) : ∀ k ∈ bs, k < w.heap.size := by
 obtain ⟨g, arr, et, b, _, h1, h2, rfl⟩ := h
 intro k hk
 rcases List.mem_cons.1 hk with rfl | hk
 ·exact (Array.getElem?_eq_some_iff.1 h1).1
 ·exact jZ h2 k hk
theorem zb {w : World} {SA : Nat → Prop} {SF : Loc → Prop} : ∀ {l : List (List eZ)} {p : cR l.flatten} {vs : List Value} {bs : List Nat}, fg w SA SF l p vs bs → ∀ k ∈ bs, k < w.heap.size
 | [], _, _, _, ⟨_, h⟩, k, hk => by subst h; cases hk
 | _ :: l, _, _, _, ⟨_, _, _, _, _, rfl, h1, h2⟩, k, hk => (List.mem_append.1 hk).elim (A7 h1 k) (zb h2 k)
theorem A8 {w : World} {SA : Nat → Prop} {N0 : Loc → Prop} : ∀ {l : List kC} {q : cR (l.flatMap kC.flat)} {vs ps : List Value} {bs ms : List Nat}, gU w SA N0 l q vs ps bs ms → ∀ k ∈ bs ++ ms, k < w.heap.size
 | [], _, _, _, _, _, ⟨_, _, h, h'⟩, k, hk => by subst h h'; cases hk
 | p :: l, _, _, _, _, _, ⟨_, _, _, _, b1, b2, m1, m2, _, _, rfl, rfl, h1, h2⟩, k, hk => by
  have hk : k ∈ b1 ++ m1 ∨ k ∈ b2 ++ m2 := by
   simp only [List.mem_append] at hk ⊢
   rcases hk with (h | h) | (h | h)
   ·exact .inl (.inl h)
   ·exact .inr (.inl h)
   ·exact .inl (.inr h)
   ·exact .inr (.inr h)
  rcases hk with hk | hk
  ·cases p with
   | cell c => obtain ⟨_, rfl, h⟩ := h1; exact jZ h k hk
   | agg cs => obtain ⟨_, rfl, us, _, h⟩ := h1; exact jZ h k hk
   | ad _ _ _ => obtain ⟨_, rfl, rfl, _⟩ := h1; cases hk
   | box cs => obtain ⟨_, rfl, h⟩ := h1; exact A7 h k (by simpa using hk)
   | fn f l => obtain ⟨_, rfl, h⟩ := h1; exact zb h k (by simpa using hk)
  ·exact A8 h2 k hk
theorem DS {w : World} {SA : Nat → Prop} {SF : Loc → Prop} : ∀ {ms : List (Nat × Ty)} {q : mM ms} {b : List Nat}, cO w SA SF ms q b → ms = [] → b = []
 | [], _, _, h, _ => h
 | _ :: _, _, _, _, h => by cases h
theorem lZ {w : World} {SA : Nat → Prop} {SF : Loc → Prop} : ∀ {ms : List (Nat × Ty)} {q : mM ms} {b : List Nat}, cO w SA SF ms q b → ∀ k ∈ b, k < w.heap.size
 | [], _, _, h, k, hk => by cases h; cases hk
 | p :: ms, q, _, ⟨b1, b2, rfl, M, hb, h⟩, k, hk => by
  rcases List.mem_append.1 hk with hk | hk
  ·obtain ⟨j, xs, C, h1, h2⟩ := (hb.2 k).1 hk
   rcases M.HQ j xs h1 with ⟨_, h3⟩ | ⟨g', C', cur, h3, h4, _⟩
   ·exact absurd h2 (h3 k C)
   ·obtain ⟨rfl, rfl⟩ := M.one _ _ _ _ _ h2 h3
    exact (Array.getElem?_eq_some_iff.1 h4).1
  ·exact lZ h k hk
theorem l4 {w : World} {SA : Nat → Prop} {SF : Loc → Prop} : ∀ {ms : List (Nat × Ty)} {q : mM ms} {b : List Nat} {o : Nat} {ov : OV}, cO w SA SF ms q b → look (gb ms q) o = some ov →
  ∃ t et bs, ov = .mem t et bs ∧ o = an et ∧ dy w.heap SA SF t et bs ∧ ∀ g, (∃ k xs C, bs[k]? = some (some xs) ∧ SF (.m et (k + 1) g C)) → g ∈ b
 | [], _, _, _, _, _, h => by cases h
 | p :: ms, q, _, o, ov, ⟨b1, b2, rfl, M, hb, h⟩, hl => by
  simp only [gb, dz] at hl
  split at hl
  ·rename_i ho
   cases hl
   exact ⟨_, _, _, rfl, ho.symm, M, fun g hg => List.mem_append_left _ ((hb.2 g).2 hg)⟩
  ·obtain ⟨t, et, bs, h1, h2, h3, h4⟩ := l4 h hl
   exact ⟨t, et, bs, h1, h2, h3, fun g hg => List.mem_append_right _ (h4 g hg)⟩
theorem wO {w : World} {SA : Nat → Prop} {SF : Loc → Prop} {β : Nat → Value} : ∀ {ms : List (Nat × Ty)} {q : mM ms} {b : List Nat} {o o' g : Nat} {ov ov' : OV}, cO w SA SF ms q b → b.Nodup → look (gb ms q) o = some ov → look (gb ms q) o' = some ov' →
  bI SF β o ov g → bI SF β o' ov' g → o = o'
 | [], _, _, _, _, _, _, _, _, _, h, _, _, _ => by cases h
 | p :: ms, q, _, o, o', g, ov, ov', ⟨b1, b2, rfl, M, hb, h⟩, hnd, hl, hl', hg, hg' => by
  obtain ⟨n1, n2, n3⟩ := List.nodup_append.1 hnd
  have key : ∀ {o : Nat} {ov : OV}, look (gb ms q.2) o = some ov → bI SF β o ov g → g ∈ b2 := fun hl hg => by
   obtain ⟨t, et, bs, rfl, rfl, _, h4⟩ := l4 h hl
   exact h4 g hg
  simp only [gb, dz] at hl hl'
  split at hl <;> split at hl'
  ·rename_i h1 h2; rw [← h1, ← h2]
  ·cases hl
   exact (n3 g ((hb.2 g).2 hg) g (key hl' hg') rfl).elim
  ·cases hl'
   exact (n3 g ((hb.2 g).2 hg') g (key hl hg) rfl).elim
  ·exact wO h n2 hl hl' hg hg'
theorem wP (HT : mL P T) {D : Den} {n : Nat} {G : gl} (hcall : ∀ (cx : Cx) (c : Ctx), cx.T = T → cx.D = D → y7 G c.w0.heap c.tq → n9 P cx c) (hm : P.follows .mixedOrders = true) {f : FuncId} {fn : Func} (hf : P.funcs[f]? = some fn) {s : bh} {R : Type} {g : s.Out → R}
  {w : World} {SA : Nat → Prop} {N0 : Loc → Prop} {vs ps : List Value} {bs ms : List Nat} {p : s.In} {q : R} (hq : AS T D n fn s g p = some q) (hin : Lm G w SA N0 s p vs ps bs ms) :
  Calls P f vs.toArray w fun e w' => ∃ q', g q' = q ∧ ∃ v SF us b1 b2, e = .returned v ∧ sy w SA N0 bs ms ps s q' v w' SF us b1 b2 := by
 obtain ⟨m1, m2, rfl, hargs, hmems⟩ := hin.args
 simp only [AS, Bool.cond_eq_ite] at hq
 split at hq
 ·rename_i hok
  simp only [Jw, Bool.and_eq_true, Nat.ble_eq] at hok
  have hok1 : ∀ p ∈ s.ins, vG p ≤ 64 := fun p hp => Nat.le_of_ble_eq_true (List.all_eq_true.1 hok.1 p hp)
  have hbx : (vF s || !(s.bA.isEmpty)) = true → s.boxes.all (fun cs => cs.all isVal) = true := fun h => by
   have := hok.2.2
   rw [h] at this
   simpa using this
  split at hq
  ·rename_i code hcode
   refine calls_of_wp hf hcode ?_
   obtain ⟨hlen, β, k1, k2⟩ := wK (i := 0) hargs (List.Nodup.sublist (List.Sublist.append_left (List.sublist_append_left _ _) _) hin.nodup) hok1
   have hlen : vs.length = s.ins.length := hlen
   let c : Ctx := ⟨w, SA, fun k => k ∈ bs ++ (m1 ++ m2), fn.ntmps, (eM 0 s.ins).map fun i => (i, vs.getD i undef), N0⟩
   have hsz : (vs.toArray ++ Array.replicate (fn.ntmps - vs.toArray.size) undef).size = fn.ntmps := by
    simp only [Array.size_append, List.size_toArray, Array.size_replicate]
    omega
   have hget : ∀ i, (vs.toArray ++ Array.replicate (fn.ntmps - vs.toArray.size) undef).getD i undef = vs.getD i undef := fun i => by
    rw [List.size_toArray]; exact JR
   have hlt : ∀ k ∈ bs ++ (m1 ++ m2), k < w.heap.size := fun k hk => by
    rw [← List.append_assoc] at hk
    exact (List.mem_append.1 hk).elim (A8 hargs k) (lZ hmems k)
   have hl1 : ∀ k, k ∈ bs ++ m1 → k ∈ bs ++ (m1 ++ m2) := fun k hk => by rw [← List.append_assoc]; exact List.mem_append_left _ hk
   have hl2 : ∀ k, k ∈ m2 → k ∈ bs ++ (m1 ++ m2) := fun k hk => by rw [← List.append_assoc]; exact List.mem_append_right _ hk
   have hnd2 : ((bs ++ m1) ++ m2).Nodup := by rw [List.append_assoc]; exact hin.nodup
   have hobj : ∀ o ov, (Gv s p).obj o = some ov → look (yE 0 s.ins (bN.out _ p)).aY o = some ov ∨ look (gb s.bA (bN.ms _ p)) o = some ov := fun o ov h => fB _ _ _ _ h
   have hblk : ∀ o ov g, look (yE 0 s.ins (bN.out _ p)).aY o = some ov → bI N0 β o ov g → g ∈ bs ++ m1 := fun o ov g ho hg => (k2.mem o ov ho).2.2.2.2.1 g (hg.flat (k2.mem o ov ho).2.2.2.2.2.2)
   have hblm : ∀ o ov g, look (gb s.bA (bN.ms _ p)) o = some ov → bI N0 β o ov g → g ∈ m2 := fun o ov g ho hg => by
    obtain ⟨t, et, bs', rfl, rfl, _, h4⟩ := l4 hmems ho
    exact h4 g hg
   have H : aC c β N0 (Gv s p) ⟨vs.toArray ++ Array.replicate (fn.ntmps - vs.toArray.size) undef, []⟩ w := by
    refine ⟨rfl, rfl, rfl, Nat.le_refl _, fun _ _ _ => rfl, hin.sa, hlt, fun k hk => (hin.n0 k hk).elim, fun l hl => hl, rfl, hsz, fun pr hpr => ?_, fun i sv hs => ?_, fun o ov ho => ?_, fun o ov g ho hg => ?_, fun o o' ov ov' g hne h h' hg hg' => ?_⟩
    ·obtain ⟨i, hi, rfl⟩ := List.mem_map.1 hpr
     exact hget i
    ·obtain ⟨a1, a2, a3, _⟩ := k1 i sv hs
     refine ⟨show i < fn.ntmps by omega, ?_⟩
     rw [hget]
     rw [Nat.sub_zero] at a3
     exact a3
    ·rcases hobj o ov ho with ho | ho
     ·exact (k2.mem o ov ho).2.2.2.1
     ·obtain ⟨t, et, bs', rfl, rfl, M, _⟩ := l4 hmems ho
      exact ⟨rfl, M⟩
    ·rcases hobj o ov ho with ho | ho
     ·have h5 := hl1 g (hblk o ov g ho hg)
      exact ⟨hlt g h5, .inr (.inr ⟨(k2.mem o ov ho).2.2.1, .inl h5⟩)⟩
     ·have h5 := hl2 g (hblm o ov g ho hg)
      obtain ⟨t, et, bs', rfl, _⟩ := l4 hmems ho
      exact ⟨hlt g h5, .inr (.inr ⟨rfl, .inl h5⟩)⟩
    ·rcases hobj o ov h with h | h <;> rcases hobj o' ov' h' with h' | h'
     ·exact hne (k2.inj o o' ov ov' g h h' (hg.flat (k2.mem o ov h).2.2.2.2.2.2) (hg'.flat (k2.mem o' ov' h').2.2.2.2.2.2))
     ·exact (List.nodup_append.1 hnd2).2.2 g (hblk o ov g h hg) g (hblm o' ov' g h' hg') rfl
     ·exact (List.nodup_append.1 hnd2).2.2 g (hblk o' ov' g h' hg') g (hblm o ov g h hg) rfl
     ·exact hne (wO hmems (List.nodup_append.1 hnd2).2.1 h h' hg hg')
   have F : Fits P ⟨T, D, n, fn.ntmps, eM 0 s.ins, aJ s.bA⟩ c := ⟨HT, hcall _ c rfl rfl hin.Lq, rfl, by simp [c, Function.comp_def]⟩
   refine gu F hm code _ _ _ _ q hq _ (fun x e' hx a' w' H' => ?_) _ _ ⟨β, N0, H⟩
   have hfin : (finish T fn s e').map g = some q → a'.defers = [] ∧ ∃ v, (results fn a'.tmps).run P w' = .ok v w' ∧ ∃ q', g q' = q ∧ ∃ v1 SF us b1 b2, Ending.returned v = .returned v1 ∧ sy w SA N0 bs (m1 ++ m2) ps s q' v1 w' SF us b1 b2 := fun hx => by
    obtain ⟨q', hx, hgq⟩ := Option.map_eq_some_iff.1 hx
    obtain ⟨β', SF', H'⟩ := H'
    obtain ⟨v, SF1, us, b1, b2, h1, h2⟩ := BV HT H' hx hargs (DS hmems) hbx (fun k => Iff.rfl) rfl (fun i hi => H'.pins (i, vs.getD i undef) (List.mem_map.2 ⟨i, hi, rfl⟩))
    exact ⟨H'.nd, v, h1, q', hgq, v, SF1, us, b1, b2, rfl, h2⟩
   cases x with
   | vx => exact hfin hx
   | ret => exact hfin hx
   | ex k => cases hx
  ·cases hq
 ·cases hq
theorem Lo {T : Types} {D : Den} {n : Nat} {fn : Func} {s : bh} {p : s.In} : body T D n fn s p = AS T D n fn s id p := by
 unfold body AS
 simp only [Option.map_id, id]
theorem Fy (HT : mL P T) {D : Den} {n : Nat} {G : gl} (hcall : ∀ (cx : Cx) (c : Ctx), cx.T = T → cx.D = D → y7 G c.w0.heap c.tq → n9 P cx c) (hm : P.follows .mixedOrders = true) {f : FuncId} {fn : Func} (hf : P.funcs[f]? = some fn) {s : bh} :
  bU P G f ⟨s, body T D n fn s⟩ := by
 intro w SA N0 vs ps bs ms p q hq hin
 rw [show (FD.mk s (body T D n fn s)).run p = AS T D n fn s id p from Lo] at hq
 refine (wP HT hcall hm hf hq hin).mono ?_
 rintro e w' ⟨q', rfl, h⟩
 exact h
end
end Go.Px
namespace Go.Px
open Go
section
variable {P : Program} {cx : Cx} {c : Ctx} {β : Nat → Value} {SF : Loc → Prop} {e : Env} {a : Act} {w : World} {ve : Env} [Sub ve e]
def Ia (e : Env) (β : Nat → Value) (SF : Loc → Prop) (eN : List Nat) (k : Nat) : Prop := ∃ o ∈ eN, ∃ ov, e.obj o = some ov ∧ bI SF β o ov k
def Reads (c : Ctx) (e : Env) (β : Nat → Value) (SF : Loc → Prop) (fresh : Bool) (eN : List Nat) : Nat → Prop := fun k => (fresh = false ∧ c.SA k) ∨ SF k ∨ Ia e β SF eN k
def wQ (SF : Loc → Prop) : Loc → Prop
 | .b _ => False
 | .m et k g C => SF (.m et k g C)
theorem wQ.to {SA : Nat → Prop} {f fl : Bool} {S' : Nat → Prop} : yG (S2 SA SF f) (S2 S' (wQ SF) fl) := fun _ _ _ _ h => .inl (h.elim id fun h => h.2.elim)
theorem S2.Lp {SA S' : Nat → Prop} {f : Bool} (h1 : ∀ k : Nat, SF k → S' k) (h2 : f = false → ∀ k, SA k → S' k) : ∀ l, S2 SA SF f l → S2 S' (wQ SF) false l
 | .b k, hk => .inr ⟨rfl, hk.elim (h1 k) fun ⟨p, q⟩ => h2 p k q⟩
 | .m .., hk => .inl (hk.elim id fun h => h.2.elim)
theorem Fz {h : Array Obj} {SA S' : Nat → Prop} {t : Ty} {vs : List Value} {x : t.den} {f fl : Bool} (hfl : (!fl || !(cE t)) = true) (h1 : ∀ k : Nat, SF k → S' k) (h2 : (f || !(cE t)) = false → ∀ k, SA k → S' k) (H : bm h (S2 SA SF f) t vs x) :
  bm h (S2 S' (wQ SF) fl) t vs x := by
 cases hs : cE t with
 | false => exact bm.lT wQ.to hs H
 | true =>
  rw [hs] at hfl h2
  have : fl = false := by simpa using hfl
  subst this
  exact bm.mono (S2.Lp h1 fun hf => h2 (by rw [hf]; rfl)) (fun _ _ => rfl) H
theorem sC (H : aC c β SF e a w) {x : Cell} {t : Ty} {xs : List t.den} {f : Bool} {v : Value} {S' : Nat → Prop} (h : content ve x = some ⟨t, xs, f⟩) (hx : ∀ t' y f', x ≠ .val t' y f') (hv : aG w.heap c.SA SF β x v)
  (h1 : ∀ k : Nat, SF k → S' k) (h2 : f = false → ∀ k, c.SA k → S' k) (h3 : ∀ k, Ia e β SF (aq x) k → S' k) : bm w.heap (S2 S' (wQ SF) false) (.slice t) [v] xs := by
 have hm : ∀ {ys : List t.den} {vs : List Value}, b7 (bm w.heap (S2 c.SA SF f) t) ys vs → b7 (bm w.heap (S2 S' (wQ SF) false) t) ys vs := fun hc => hc.mono fun _ _ hr => bm.mono (S2.Lp h1 h2) (fun _ _ => rfl) hr
 unfold content at h
 split at h
 ·exact absurd rfl (hx _ _ _)
 ·rename_i o
  split at h
  ·rename_i t' et xs' f' st ho
   cases h
   obtain ⟨rfl, A, N, C, hv⟩ := hv
   have hob := bE (e := e) ho
   obtain ⟨vs, ho, hch⟩ := H.aY _ _ hob
   rcases ho with ⟨g1, ⟨g2, g3⟩ | ⟨g, b0, cap, cur, g2, _, g3, g4, g5, g6, g7⟩⟩
   ·exact ⟨none, 0, 0, by rw [g2], g3, Nat.le_refl _, .inl rfl⟩
   ·refine ⟨_, _, _, by rw [g2], rfl, g4, .inr ⟨g, b0, cur, et, (0, 0), rfl, .inr ⟨rfl, h3 g ⟨o, by simp [aq], _, hob, show bo (β o) = some g by rw [g2]; rfl⟩⟩, g3, ?_, ?_⟩⟩
    ·exact Nat.le_trans (Nat.add_le_add_left (Nat.mul_le_mul_right _ g4) _) g6
    ·rw [g7]; exact hm hch
  ·cases h
 ·rename_i o t' lo n
  split at h
  ·rename_i t'' et xs' f' st ho
   split at h
   ·rename_i hb
    have hb := Ty.eq_of_beq hb
    subst hb
    cases h
    obtain ⟨A, N, C, hβ, k1, k2, hv⟩ := hv
    have hob := bE (e := e) ho
    obtain ⟨vs, ho, hch⟩ := H.aY _ _ hob
    rw [hβ] at ho
    rcases ho with ⟨g1, ⟨g2, g3⟩ | ⟨g, b0, cap, cur, g2, _, g3, g4, g5, g6, g7⟩⟩
    ·cases g2
     refine ⟨_, _, _, by rw [hv], ?_, by omega, .inl (by omega)⟩
     refine (rC (α := t.den) xs' lo (lo + n)).trans ?_
     omega
    ·cases g2
     refine ⟨_, _, _, by rw [hv], ?_, by omega, ?_⟩
     ·refine (rC (α := t.den) xs' lo (lo + n)).trans ?_
      omega
     ·by_cases h0 : n = 0
      ·exact .inl h0
      ·rw [if_neg (by omega)]
       refine .inr ⟨g, b0 + lo * t.size, cur, et, (0, 0), ?_, .inr ⟨rfl, h3 g ⟨o, by simp [aq], _, hob, show bo (β o) = some g by rw [hβ]; rfl⟩⟩, g3, ?_, ?_⟩
       ·show some ((⟨g, b0, none⟩ : Addr).add (lo * t.size)) = _
        rw [Addr.add_mid]
       ·rw [Nat.add_assoc, ← Nat.add_mul]
        exact Nat.le_trans (Nat.add_le_add_left (Nat.mul_le_mul_right _ (by omega)) _) g6
       ·have hc := hm ((hch.take (lo + n)).drop lo)
        have e1 : ((cur.toList.drop b0).take ((lo + n) * t.size)).drop (lo * t.size) = (cur.toList.drop (b0 + lo * t.size)).take (n * t.size) := by
         rw [List.drop_take, ← Nat.sub_mul, show lo + n - lo = n by omega, List.drop_drop]
        rw [← g7, List.take_take, Nat.min_eq_left (Nat.mul_le_mul_right _ k1), e1] at hc
        exact hc
   ·cases h
  ·cases h
 ·cases h
theorem lN : ∀ t : Ty, (flat t).size = t.size
 | .int _ | .bool | .str | .err | .mp | .nil | .slice _ | .aI _ _ => rfl
 | .cons a b => by simp only [flat, Ty.size, lN a, lN b]
theorem b7.map' {α γ : Type} {R : List Value → α → Prop} {R' : List Value → γ → Prop} {g : α → γ} : ∀ {xs : List α} {vs : List Value}, (∀ x ∈ xs, ∀ c, R c x → R' c (g x)) → b7 R xs vs → b7 R' (xs.map g) vs
 | [], _, _, h => h
 | x :: xs, _, hR, ⟨c, r, e, h1, h2⟩ => ⟨c, r, e, hR x (List.mem_cons_self ..) c h1, b7.map' (fun y hy => hR y (List.mem_cons_of_mem _ hy)) h2⟩
theorem mW {v : Env} : ∀ {t : Ty} {x : t.den}, p9 t = true → gn v t x = true
 | .int _, _, _ => rfl
 | .bool, _, _ => rfl
 | .str, _, _ => rfl
 | .err, _, _ => rfl
 | .mp, _, _ => rfl
 | .nil, _, _ => rfl
 | .cons a b, x, h => by
  simp only [p9, Bool.and_eq_true] at h
  simp only [gn, Bool.and_eq_true]
  exact ⟨mW h.1, mW h.2⟩
 | .slice t, xs, h => by
  simp only [p9] at h
  simp only [gn, h, cond_true]
 | .aI _ _, _, h => by cases h
theorem BW {v : Env} {t : Ty} {xs : List t.den} (h : gn v (.slice t) xs = true) : ∀ y ∈ xs, gn v t y = true := fun y hy => by
 cases hb : p9 t with
 | true => exact mW hb
 | false =>
  simp only [gn, hb, cond_false] at h
  exact List.all_eq_true.1 h y hy
theorem oa (H : aC c β SF e a w) {S' : Nat → Prop} (h1 : ∀ k : Nat, SF k → S' k) : ∀ {t : Ty} {x : t.den} {cs : List Value} {S : Loc → Prop}, bm w.heap S t cs x → gn ve t x = true → (∀ k : Nat, S k → S' k) ∧ (∀ et k g C, S (.m et k g C) → SF (.m et k g C)) → (∀ k, Ia e β SF (Ah t) k → S' k) →
  bm w.heap (S2 S' (wQ SF) false) (flat t) cs (seen ve t x)
 | .int _, _, _, _, hr, _, _, _ => hr
 | .bool, _, _, _, hr, _, _, _ => hr
 | .str, _, _, _, hr, _, _, _ => hr
 | .err, _, _, _, hr, _, _, _ => hr
 | .mp, _, _, _, hr, _, _, _ => hr
 | .nil, _, _, _, hr, _, _, _ => hr
 | .cons a b, _, _, _, ⟨p, q, e1, g1, g2⟩, hok, h2, h3 => by
  simp only [gn, Bool.and_eq_true] at hok
  exact ⟨p, q, e1, oa H h1 g1 hok.1 h2 (fun k ⟨o, ho, h⟩ => h3 k ⟨o, List.mem_append_left _ ho, h⟩), oa H h1 g2 hok.2 h2 (fun k ⟨o, ho, h⟩ => h3 k ⟨o, List.mem_append_right _ ho, h⟩)⟩
 | .slice t, xs, _, S, ⟨p, n, q, e1, e2, e3, hrow⟩, hok, h2, h3 => by
  refine ⟨p, n, q, e1, (List.length_map ..).trans e2, e3, hrow.imp id fun ⟨g, off, arr, et, fr, f1, f2, f3, f4, f5⟩ => ⟨g, off, arr, et, fr, f1, .inr ⟨rfl, h2.1 g f2⟩, f3, by rw [lN]; exact f4, ?_⟩⟩
  rw [lN]
  exact b7.map' (fun y hy c hr => oa H h1 hr (BW hok y hy) h2 h3) f5
 | .aI et t, x, _, S, ⟨p, n, q, e1, e2, e3, hrow⟩, hok, h2, h3 => by
  simp only [gn] at hok
  simp only [seen]
  split at hok
  ·rename_i bs hbs
   have hok2 : bH bs x = true ∧ ∀ y ∈ au bs x, gn ve t y = true := by
    cases hb : p9 t with
    | true => simp only [hb, cond_true] at hok; exact ⟨hok, fun y hy => mW hb⟩
    | false => simp only [hb, cond_false, Bool.and_eq_true] at hok; exact ⟨hok.1, fun y hy => List.all_eq_true.1 hok.2 y hy⟩
   clear hok
   obtain ⟨hok, hall⟩ := hok2
   obtain ⟨ho, M⟩ := n8 H hbs
   simp only [bH, Bool.or_eq_true, Bool.and_eq_true, Nat.beq_eq, Nat.ble_eq] at hok
   have hlen : ((au bs x).map (seen ve t)).length = n := by
    rw [List.length_map]
    show (((ak bs x.1).take (x.2.1 + x.2.2)).drop x.2.1).length = n
    rw [List.length_drop, List.length_take]
    clear hrow
    omega
   refine ⟨p, n, q, e1, hlen, e3, ?_⟩
   by_cases h0 : n = 0
   ·exact .inl h0
   ·rcases hrow with ⟨hz, _⟩ | ⟨g, C, rfl, hle, hS⟩
    ·exact absurd hz h0
    ·have hS : SF (.m et x.1 g C) := h2.2 _ _ _ _ hS
     obtain ⟨hlv, hlen⟩ := hok.resolve_left (by omega)
     obtain ⟨cur, hcur, q1, q2, q3, hch⟩ := M.hit hS hlv
     obtain ⟨j, hj, hjb⟩ := hE hlv
     refine .inr ⟨g, C.1 + x.2.1 * t.size, cur, et, (0, 0), rfl, .inr ⟨rfl, h3 g ⟨an et, List.mem_cons_self .., _, ho, j, _, C, hjb, hj ▸ hS⟩⟩, hcur, ?_, ?_⟩
     ·rw [lN, Nat.add_assoc, ← Nat.add_mul]
      exact Nat.le_trans (Nat.add_le_add_left (Nat.mul_le_mul_right _ (by omega)) _) q3
     ·have hc := (hch.take (x.2.1 + x.2.2)).drop x.2.1
      have e4 : ((cur.toList.drop C.1).take ((x.2.1 + x.2.2) * t.size)).drop (x.2.1 * t.size) = (cur.toList.drop (C.1 + x.2.1 * t.size)).take (n * t.size) := by
       rw [List.drop_take, ← Nat.sub_mul, show x.2.1 + x.2.2 - x.2.1 = n by omega, List.drop_drop]
      rw [List.take_take, Nat.min_eq_left (Nat.mul_le_mul_right _ hlen), e4] at hc
      rw [lN]
      exact b7.map' (fun y hy c hr => oa H h1 hr (hall y hy) ⟨fun k hk => hk.elim (h1 k) fun h => (by cases h.1), fun _ _ _ _ h => h.elim id fun h => h.2.elim⟩ (fun k ⟨o, ho, h⟩ => h3 k ⟨o, List.mem_cons_of_mem _ ho, h⟩)) hc
  ·cases hok
theorem N9 {h : Array Obj} {S' : Nat → Prop} {t : Ty} {vs : List Value} {x : t.den} {fl : Bool} (hfl : (!fl || !(cE t)) = true) (H : bm h (S2 S' (wQ SF) false) t vs x) : bm h (S2 S' (wQ SF) fl) t vs x := by
 cases fl with
 | false => exact H
 | true => exact bm.lT (S2.yJ _) (by simpa using hfl) H
theorem zc (H : aC c β SF e a w) {t : Ty} {fl : Bool} {x : Cell} {z : t.den} {fr ok : Bool} {ns : List Nat} {v : Value} {S' : Nat → Prop} (h : oS ve (.val t fl) x = some (z, fr, ns, ok)) (hv : aG w.heap c.SA SF β x v) (hok : ok = true)
  (h1 : ∀ k : Nat, SF k → S' k) (h2 : fr = false → ∀ k, c.SA k → S' k) (h3 : ∀ k, Ia e β SF ns k → S' k) : bm w.heap (S2 S' (wQ SF) fl) t [v] z := by
 unfold oS at h
 simp only at h
 obtain ⟨hfl, h'⟩ := cy h
 clear h
 split at h'
 ·rename_i t' y f
  split at h'
  ·obtain ⟨z', hz, hz'⟩ := Option.map_eq_some_iff.1 h'
   obtain ⟨rfl, hy⟩ := nZ hz
   cases hy
   cases hz'
   exact Fz hfl h1 h2 hv
  ·obtain ⟨z', hz, hz'⟩ := Option.map_eq_some_iff.1 h'
   obtain ⟨rfl, hy⟩ := nZ hz
   cases hy
   cases hz'
   have hv' : bm w.heap (S2 c.SA SF (f || !(cE t'))) t' [v] y := by
    cases hs : cE t' with
    | false => exact bm.lT (S2.yJ _) hs hv
    | true =>
     rw [Bool.not_true, Bool.or_false]
     exact hv
   exact N9 hfl (oa H h1 hv' hok ⟨fun k hk => hk.elim (h1 k) fun h => h2 h.1 k h.2, fun _ _ _ _ h => h.elim id fun h => h.2.elim⟩ h3)
 ·have hv : v = .slice none 0 0 := hv
  subst hv
  split at h'
  ·cases h'
   exact ⟨none, 0, 0, rfl, rfl, Nat.le_refl _, .inl rfl⟩
  ·cases h'
   exact ⟨none, 0, 0, rfl, rfl, Nat.le_refl _, .inl ⟨rfl, rfl, fun _ => rfl⟩⟩
  ·cases h'
 ·rename_i hne1 hne2
  split at h'
  ·rename_i t' xs f hct
   split at h'
   ·rename_i el
    have hsl : fl = false := by simpa [cE] using hfl
    subst hsl
    split at h'
    ·obtain ⟨z', hz, hz'⟩ := Option.map_eq_some_iff.1 h'
     obtain ⟨rfl, hy⟩ := fX hz
     cases hy
     cases hz'
     exact sC H hct (fun _ _ _ h => hne1 _ _ _ h) hv h1 h2 h3
    ·obtain ⟨z', hz, hz'⟩ := Option.map_eq_some_iff.1 h'
     obtain ⟨rfl, hy⟩ := fX hz
     cases hy
     cases hz'
     have hr := sC H hct (fun _ _ _ h => hne1 _ _ _ h) hv h1 h2 (fun k ⟨o, ho, h⟩ => h3 k ⟨o, List.mem_append_left _ ho, h⟩)
     exact oa (t := .slice t') H h1 hr (by simp only [gn]; cases p9 t' with | true => rfl | false => exact hok) ⟨fun k hk => hk.elim (fun h => h.elim) fun h => h.2, fun _ _ _ _ h => h.elim id fun h => h.2.elim⟩ (fun k ⟨o, ho, h⟩ => h3 k ⟨o, List.mem_append_right _ ho, h⟩)
   ·cases h'
  ·cases h'
structure sE (c : Ctx) (e : Env) (β : Nat → Value) (SF : Loc → Prop) (S' : Nat → Prop) (fresh : Bool) (eN : List Nat) : Prop where
 sf : ∀ k : Nat, SF k → S' k
 sa : fresh = false → ∀ k, c.SA k → S' k
 eN : ∀ k, Ia e β SF eN k → S' k
theorem sE.sub {S' : Nat → Prop} {fresh fresh' : Bool} {eN lent' : List Nat} (h : sE c e β SF S' fresh eN) (h1 : fresh' = false → fresh = false) (h2 : ∀ o ∈ lent', o ∈ eN) : sE c e β SF S' fresh' lent' :=
 ⟨h.sf, fun hf => h.sa (h1 hf), fun k ⟨o, ho, hk⟩ => h.eN k ⟨o, h2 o ho, hk⟩⟩
def zd (v : Env) (n : Nat) : Prop := ∃ (t : Ty) (et : Nat) (ys : List t.den) (f : Bool) (st : Nat), v.obj n = some (.row t et ys f st) ∧ (st = 0 ∨ st = 2)
theorem BX {t : Ty} {fl : Bool} {x : Cell} {z : t.den} {fr ok : Bool} {ns : List Nat} (h : oS ve (.val t fl) x = some (z, fr, ns, ok)) (hns : ns = []) : aq x = [] := by
 unfold oS at h
 simp only at h
 obtain ⟨hfl, h'⟩ := cy h
 clear h
 split at h'
 ·rfl
 ·rfl
 ·split at h'
  ·split at h'
   ·split at h'
    ·obtain ⟨z', hz, hz'⟩ := Option.map_eq_some_iff.1 h'
     cases hz'
     exact hns
    ·obtain ⟨z', hz, hz'⟩ := Option.map_eq_some_iff.1 h'
     cases hz'
     exact (List.append_eq_nil_iff.1 hns).1
   ·cases h'
  ·cases h'
theorem lr (H : aC c β SF e a w) {S' : Nat → Prop} : ∀ {l : List eZ} {xs : List Cell} {A : ik l} {vs : List Value}, eL ve l xs = some A → ao w.heap c.SA SF β xs vs → A.ok = true →
  sE c e β SF S' A.fresh A.eN → cH w S' (wQ SF) l A.nM vs (A.iI.flatMap (fJ β)) ∧ ∀ n ∈ A.iI, zd ve n
 | [], [], _, _, h, hv, _, _ => by cases h; exact ⟨⟨hv, rfl⟩, fun n hn => (by cases hn)⟩
 | [], _ :: _, _, _, h, _, _, _ => by cases h
 | _ :: _, [], _, _, h, _, _, _ => by cases h
 | .val t f :: l, x :: xs, A, _, h, ⟨v, r, rfl, h1, h2⟩, hok, K => by
  simp only [eL] at h
  split at h
  ·rename_i z fr ns ok A' hz hA
   cases h
   obtain ⟨hok1, hok2⟩ := (Bool.and_eq_true _ _).mp hok
   obtain ⟨k1, k2⟩ := lr H hA h2 hok2 (K.sub (fun hf => by simp [hf]) (fun o ho => List.mem_append_right _ ho))
   exact ⟨⟨v, r, rfl, zc H hz h1 hok1 K.sf (fun hf => K.sa (by simp [hf])) (fun k ⟨o, ho, hk⟩ => K.eN k ⟨o, List.mem_append_left _ ho, hk⟩), k1⟩, k2⟩
  ·cases h
 | .row t et fl :: l, x :: xs, A, _, h, ⟨v, r, rfl, h1, h2⟩, hok, K => by
  simp only [eL] at h
  split at h
  ·rename_i z fr ns ok A' hz hA
   cases h
   obtain ⟨hok1, hok2⟩ := (Bool.and_eq_true _ _).mp hok
   obtain ⟨k1, k2⟩ := lr H hA h2 hok2 (K.sub (fun hf => by simp [hf]) (fun o ho => List.mem_append_right _ ho))
   unfold oS at hz
   simp only at hz
   obtain ⟨hfl, hz'⟩ := cy hz
   clear hz
   split at hz'
   ·rename_i o
    split at hz'
    ·rename_i t' et' ys f' st ho
     obtain ⟨hc, hz⟩ := cy hz'
     clear hz'
     simp only [Bool.and_eq_true, Nat.beq_eq, loose, Bool.or_eq_true] at hc
     obtain ⟨rfl, hst⟩ := hc
     obtain ⟨z', hz1, hz2⟩ := Option.map_eq_some_iff.1 hz
     obtain ⟨rfl, hy⟩ := fX hz1
     cases hy
     cases hz2
     obtain ⟨hv, _⟩ := h1
     obtain ⟨cells, g1, g2⟩ := H.aY _ _ (bE ho)
     refine ⟨⟨v, r, cells, A'.iI.flatMap (fJ β), rfl, ?_, by rw [hv]; exact g1, g2.mono fun _ _ hr => Fz hfl K.sf (fun hf => K.sa (by simp [hf])) hr, k1⟩, fun n hn => ?_⟩
     ·show (([o] ++ A'.iI).flatMap (fJ β)) = _
      rw [List.flatMap_append]
      simp only [List.flatMap_cons, List.flatMap_nil, List.append_nil, fJ]
      rw [← hv]
     ·have hn : n ∈ [o] ++ A'.iI := hn
      rcases List.mem_append.1 hn with hn | hn
      ·have := List.mem_singleton.1 hn
       subst this
       exact ⟨t', et, ys, f', st, ho, hst⟩
      ·exact k2 n hn
    ·cases hz'
   ·cases hz'
    have hv : v = .slice none 0 0 := h1
    subst hv
    exact ⟨⟨_, r, [], _, rfl, rfl, World.dW _ _ _ _, rfl, k1⟩, k2⟩
   ·cases hz'
  ·cases h
theorem nA (H : aC c β SF e a w) {S' : Nat → Prop} : ∀ {l : List eZ} {xs : List Cell} {A : ik l} {vs : List Value}, eL ve l xs = some A → A.eN = [] → ao w.heap c.SA SF β xs vs → A.ok = true →
  sE c e β SF S' A.fresh [] → cH w S' (wQ SF) l A.nM vs ((xs.flatMap aq).flatMap (fJ β)) ∧ ∀ n ∈ xs.flatMap aq, Cell.row n ∈ xs ∧ ∃ (t : Ty) (et : Nat) (ys : List t.den) (f : Bool) (st : Nat), ve.obj n = some (.row t et ys f st) ∧ (st = 0 ∨ st = 2)
 | [], [], _, _, h, _, hv, _, _ => by cases h; exact ⟨⟨hv, rfl⟩, fun n hn => (by cases hn)⟩
 | [], _ :: _, _, _, h, _, _, _, _ => by cases h
 | _ :: _, [], _, _, h, _, _, _, _ => by cases h
 | .val t f :: l, x :: xs, A, _, h, hi, ⟨v, r, rfl, h1, h2⟩, hok, K => by
  simp only [eL] at h
  split at h
  ·rename_i z fr ns ok A' hz hA
   cases h
   obtain ⟨hns, hl⟩ := List.append_eq_nil_iff.1 hi
   obtain ⟨hok1, hok2⟩ := (Bool.and_eq_true _ _).mp hok
   have hx := BX hz hns
   obtain ⟨k1, k2⟩ := nA H hA hl h2 hok2 (K.sub (fun hf => by simp [hf]) (fun o ho => by cases ho))
   have hfm : (x :: xs).flatMap aq = xs.flatMap aq := by rw [List.flatMap_cons, hx, List.nil_append]
   rw [hfm]
   exact ⟨⟨v, r, rfl, zc H hz h1 hok1 K.sf (fun hf => K.sa (by simp [hf])) (fun k ⟨o, ho, _⟩ => by rw [hns] at ho; cases ho), k1⟩, fun n hn => ⟨List.mem_cons_of_mem _ (k2 n hn).1, (k2 n hn).2⟩⟩
  ·cases h
 | .row t et fl :: l, x :: xs, A, _, h, hi, ⟨v, r, rfl, h1, h2⟩, hok, K => by
  simp only [eL] at h
  split at h
  ·rename_i z fr ns ok A' hz hA
   cases h
   obtain ⟨hns, hl⟩ := List.append_eq_nil_iff.1 hi
   obtain ⟨hok1, hok2⟩ := (Bool.and_eq_true _ _).mp hok
   obtain ⟨k1, k2⟩ := nA H hA hl h2 hok2 (K.sub (fun hf => by simp [hf]) (fun o ho => by cases ho))
   unfold oS at hz
   simp only at hz
   obtain ⟨hfl, hz'⟩ := cy hz
   clear hz
   split at hz'
   ·rename_i o
    split at hz'
    ·rename_i t' et' ys f' st ho
     obtain ⟨hc, hz⟩ := cy hz'
     clear hz'
     simp only [Bool.and_eq_true, Nat.beq_eq, loose, Bool.or_eq_true] at hc
     obtain ⟨rfl, hst⟩ := hc
     obtain ⟨z', hz1, hz2⟩ := Option.map_eq_some_iff.1 hz
     obtain ⟨rfl, hy⟩ := fX hz1
     cases hy
     cases hz2
     obtain ⟨hv, _⟩ := h1
     obtain ⟨cells, g1, g2⟩ := H.aY _ _ (bE ho)
     refine ⟨⟨v, r, cells, (xs.flatMap aq).flatMap (fJ β), rfl, ?_, by rw [hv]; exact g1, g2.mono fun _ _ hr => Fz hfl K.sf (fun hf => K.sa (by simp [hf])) hr, k1⟩, fun n hn => ?_⟩
     ·rw [List.flatMap_cons, List.flatMap_append]
      simp only [aq, List.flatMap_cons, List.flatMap_nil, List.append_nil, fJ]
      rw [← hv]
     ·rw [List.flatMap_cons] at hn
      rcases List.mem_append.1 hn with hn | hn
      ·have := List.mem_singleton.1 hn
       subst this
       exact ⟨List.mem_cons_self .., t', et, ys, f', st, ho, hst⟩
      ·exact ⟨List.mem_cons_of_mem _ (k2 n hn).1, (k2 n hn).2⟩
    ·cases hz'
   ·cases hz'
    have hv : v = .slice none 0 0 := h1
    subst hv
    have hfm : (Cell.nil :: xs).flatMap aq = xs.flatMap aq := by rw [List.flatMap_cons]; rfl
    rw [hfm]
    exact ⟨⟨_, r, [], _, rfl, rfl, World.dW _ _ _ _, rfl, k1⟩, fun n hn => ⟨List.mem_cons_of_mem _ (k2 n hn).1, (k2 n hn).2⟩⟩
   ·cases hz'
  ·cases h
abbrev ze := List (Nat × List Cell × Nat)
def eO (l : ze) : List Nat := l.flatMap fun b => b.1 :: b.2.1.flatMap aq
def qs (e : Env) (v : Env) (b : Nat × List Cell × Nat) : Prop :=
 ∃ st, e.obj b.1 = some (.box b.2.1 st) ∧ v.obj b.1 = some (.box b.2.1 st) ∧ (st = 0 ∨ st = 2) ∧ b.2.2 = wC v st b.2.1 ∧
  ∀ n ∈ b.2.1.flatMap aq, Cell.row n ∈ b.2.1 ∧ ∃ (t : Ty) (et : Nat) (ys : List t.den) (f : Bool) (st : Nat), v.obj n = some (.row t et ys f st) ∧ (st = 0 ∨ st = 2)
theorem uD (H : aC c β SF e a w) {S' : Nat → Prop} {cs : List eZ} {o : Nat} {A : ik cs} (h : BE ve cs o = some A) (hok : A.ok = true) (K : sE c e β SF S' A.fresh A.eN) :
  kF w S' (wQ SF) cs A.nM (β o) ((eO A.boxes).flatMap (fJ β)) ∧ A.boxes.map (·.1) = [o] ∧ (∀ b ∈ A.boxes, qs e ve b) ∧ A.iI = [] := by
 unfold BE at h
 split at h
 ·rename_i xs st ho
  obtain ⟨hst, h'⟩ := cy h
  clear h
  simp only [loose, Bool.or_eq_true, Nat.beq_eq] at hst
  split at h'
  ·rename_i A' hA
   split at h'
   ·rename_i hl
    cases h'
    obtain ⟨g, arr, et, q1, q2, q3⟩ := H.aY _ _ (bE ho)
    obtain ⟨k1, k2⟩ := nA H hA hl q3 hok K
    refine ⟨⟨g, arr, et, _, q1, q2, k1, ?_⟩, rfl, fun b hb => ?_, rfl⟩
    ·simp [eO, fJ, q1, bo]
    ·rw [List.mem_singleton.1 hb]
     exact ⟨st, bE ho, ho, hst, rfl, k2⟩
   ·cases h'
  ·cases h'
 ·cases h
theorem wR (l m : ze) : eO (l ++ m) = eO l ++ eO m := List.flatMap_append
theorem qt (H : aC c β SF e a w) {S' : Nat → Prop} : ∀ {l : List (List eZ)} {os : List Nat} {A : ik l.flatten}, tS ve l os = some A → A.ok = true → sE c e β SF S' A.fresh A.eN →
  fg w S' (wQ SF) l A.nM (os.map β) ((eO A.boxes).flatMap (fJ β)) ∧ A.boxes.map (·.1) = os ∧ (∀ b ∈ A.boxes, qs e ve b) ∧ A.iI = []
 | [], [], _, h, _, _ => by cases h; exact ⟨⟨rfl, rfl⟩, rfl, fun b hb => (by cases hb), rfl⟩
 | [], _ :: _, _, h, _, _ => by cases h
 | _ :: _, [], _, h, _, _ => by cases h
 | cs :: l, o :: os, A, h, hok, K => by
  simp only [tS] at h
  split at h
  ·rename_i A1 A2 h1 h2
   cases h
   obtain ⟨hok1, hok2⟩ := (Bool.and_eq_true _ _).mp hok
   obtain ⟨k1, k2, k3, k4⟩ := uD H h1 hok1 (K.sub (fun hf => by simp [ik.join, hf]) (fun o ho => List.mem_append_left _ ho))
   obtain ⟨q1, q2, q3, q4⟩ := qt H h2 hok2 (K.sub (fun hf => by simp [ik.join, hf]) (fun o ho => List.mem_append_right _ ho))
   refine ⟨⟨β o, os.map β, (eO A1.boxes).flatMap (fJ β), (eO A2.boxes).flatMap (fJ β), rfl, ?_, ?_, ?_⟩, ?_, fun b hb => (List.mem_append.1 hb).elim (k3 b) (q3 b), by show A1.iI ++ A2.iI = []; rw [k4, q4]; rfl⟩
   ·show ((eO (A1.boxes ++ A2.boxes)).flatMap (fJ β)) = _
    rw [wR, List.flatMap_append]
   ·show kF w S' (wQ SF) cs (cR.split cs l.flatten (cR.append cs l.flatten A1.nM A2.nM)).1 _ _
    rw [c6]; exact k1
   ·show fg w S' (wQ SF) l (cR.split cs l.flatten (cR.append cs l.flatten A1.nM A2.nM)).2 _ _
    rw [c6]; exact q1
   ·show (A1.boxes ++ A2.boxes).map _ = _
    rw [List.map_append, k2, q2]; rfl
  ·cases h
theorem Ib (H : aC c β SF e a w) {S' : Nat → Prop} {p : kC} {x : SV} {A : ik p.flat} {v : Value} (h : arg ve p x = some A) (hv : eg w.heap c.SA SF β x v) (hok : A.ok = true) (K : sE c e β SF S' A.fresh A.eN) :
  y6 w S' (wQ SF) p A.nM v ((A.boxes.map (·.1)).map β) ((eO A.boxes).flatMap (fJ β)) (A.iI.flatMap (fJ β)) ∧ (∀ b ∈ A.boxes, qs e ve b) ∧ ∀ n ∈ A.iI, zd ve n := by
 have hb : ∀ {l : List eZ} {xs : List Cell} {A : ik l}, eL ve l xs = some A → A.boxes = [] := by
  intro l
  induction l with
  | nil => intro xs A h; cases xs <;> simp only [eL] at h <;> cases h; rfl
  | cons cc l ih =>
   intro xs A h
   cases xs with
   | nil => simp only [eL] at h; cases h
   | cons y xs =>
    simp only [eL] at h
    split at h
    ·cases h; rfl
    ·cases h
 have hnil : eO [] = [] := rfl
 cases p with
 | cell cc =>
  have h' : E7 ve cc x = some A := h
  clear h
  unfold E7 at h'
  split at h'
  ·have he : ik.boxes (l := [cc]) A = [] := hb (l := [cc]) h'
   obtain ⟨hc, hc'⟩ := lr (l := [cc]) H h' (.cons hv .nil) hok K
   exact ⟨⟨by rw [he]; rfl, by rw [he]; rfl, hc⟩, fun b hb' => (by rw [he] at hb'; cases hb'), hc'⟩
  ·cases h'
 | agg cs =>
  have h' : E8 ve cs x = some A := h
  clear h
  unfold E8 at h'
  split at h'
  ·obtain ⟨vs, hv1, hv2⟩ := hv
   have he : ik.boxes (l := cs) A = [] := hb (l := cs) h'
   obtain ⟨hc, hc'⟩ := lr (l := cs) H h' hv2 hok K
   exact ⟨⟨by rw [he]; rfl, by rw [he]; rfl, vs, hv1, hc⟩, fun b hb' => (by rw [he] at hb'; cases hb'), hc'⟩
  ·cases h'
 | box cs =>
  have h' : E9 ve cs x = some A := h
  clear h
  unfold E9 at h'
  split at h'
  ·obtain ⟨g, hv1, hv2⟩ := hv
   obtain ⟨k1, k2, k3, k4⟩ := uD (cs := cs) H h' hok K
   have k4 : ik.iI (l := cs) A = [] := k4
   refine ⟨⟨?_, by rw [k4]; rfl, ?_⟩, k3, fun n hn => by rw [k4] at hn; cases hn⟩
   ·rw [k2, hv2, ← hv1]; rfl
   ·rw [hv2, ← hv1]; exact k1
  ·cases h'
 | fn f l =>
  have h' : Jo ve f l x = some A := h
  clear h
  unfold Jo at h'
  split at h'
  ·obtain ⟨h1, h2⟩ := cy h'
   clear h'
   simp only [Nat.beq_eq] at h1
   subst h1
   obtain ⟨hv1, hv2⟩ := hv
   obtain ⟨k1, k2, k3, k4⟩ := qt (l := l) H h2 hok K
   have k4 : ik.iI (l := l.flatten) A = [] := k4
   rw [← k2] at hv1 k1
   exact ⟨⟨hv1, by rw [k4]; rfl, k1⟩, k3, fun n hn => by rw [k4] at hn; cases hn⟩
  ·cases h'
 | ad et t off =>
  have h' : Jp et t off x = some A := h
  clear h
  unfold Jp at h'
  split at h'
  ·obtain ⟨h1, h2⟩ := cy h'
   clear h'
   simp only [Bool.and_eq_true, Nat.beq_eq] at h1
   obtain ⟨rfl, ht, rfl⟩ := h1
   obtain rfl := Ty.eq_of_beq ht
   obtain rfl := Option.some.inj h2
   obtain ⟨g, C, hv1, hv2⟩ := hv
   refine ⟨⟨rfl, rfl, rfl, g, C, hv1, hv2⟩, fun b hb => ?_, fun n hn => ?_⟩
   ·have hb : b ∈ ([] : List (Nat × List Cell × Nat)) := hb
    cases hb
   ·have hn : n ∈ ([] : List Nat) := hn
    cases hn
  ·cases h'
end
end Go.Px
namespace Go.Px
open Go
section
variable {P : Program} {cx : Cx} {c : Ctx} {β : Nat → Value} {SF : Loc → Prop} {e : Env} {a : Act} {w : World} {ve : Env} [Sub ve e]
theorem zf (H : aC c β SF e a w) {S' : Nat → Prop} : ∀ {l : List kC} {xs : List SV} {A : ik (l.flatMap kC.flat)} {vs : List Value}, args ve l xs = some A → gk (eg w.heap c.SA SF β) xs vs → A.ok = true →
  sE c e β SF S' A.fresh A.eN → gU w S' (wQ SF) l A.nM vs ((A.boxes.map (·.1)).map β) ((eO A.boxes).flatMap (fJ β)) (A.iI.flatMap (fJ β)) ∧ (∀ b ∈ A.boxes, qs e ve b) ∧ ∀ n ∈ A.iI, zd ve n
 | [], [], _, _, h, hv, _, _ => by cases h; exact ⟨⟨hv, rfl, rfl, rfl⟩, fun b hb => (by cases hb), fun n hn => (by cases hn)⟩
 | [], _ :: _, _, _, h, _, _, _ => by cases h
 | _ :: _, [], _, _, h, _, _, _ => by cases h
 | p :: l, x :: xs, A, _, h, ⟨v, r, rfl, hv1, hv2⟩, hok, K => by
  simp only [args] at h
  split at h
  ·rename_i A1 A2 h1 h2
   cases h
   obtain ⟨hok1, hok2⟩ := (Bool.and_eq_true _ _).mp hok
   obtain ⟨k1, k2, k3⟩ := Ib H h1 hv1 hok1 (K.sub (fun hf => by simp [ik.join, hf]) (fun o ho => List.mem_append_left _ ho))
   obtain ⟨q1, q2, q3⟩ := zf H h2 hv2 hok2 (K.sub (fun hf => by simp [ik.join, hf]) (fun o ho => List.mem_append_right _ ho))
   refine ⟨⟨v, r, (A1.boxes.map (·.1)).map β, (A2.boxes.map (·.1)).map β, (eO A1.boxes).flatMap (fJ β), (eO A2.boxes).flatMap (fJ β), A1.iI.flatMap (fJ β), A2.iI.flatMap (fJ β), rfl, ?_, ?_, List.flatMap_append, ?_, ?_⟩, fun b hb => (List.mem_append.1 hb).elim (k2 b) (q2 b), fun n hn => (List.mem_append.1 hn).elim (k3 n) (q3 n)⟩
   ·show ((A1.boxes ++ A2.boxes).map _).map _ = _
    rw [List.map_append, List.map_append]
   ·show ((eO (A1.boxes ++ A2.boxes)).flatMap (fJ β)) = _
    rw [wR, List.flatMap_append]
   ·show y6 w S' (wQ SF) p (cR.split p.flat (l.flatMap kC.flat) (cR.append p.flat (l.flatMap kC.flat) A1.nM A2.nM)).1 _ _ _ _
    rw [c6]; exact k1
   ·show gU w S' (wQ SF) l (cR.split p.flat (l.flatMap kC.flat) (cR.append p.flat (l.flatMap kC.flat) A1.nM A2.nM)).2 _ _ _ _
    rw [c6]; exact q1
  ·cases h
theorem aC.rename (H : aC c β SF e a w) {β' : Nat → Value} (h : ∀ n, dF e n → β' n = β n) : aC c β' SF e a w := by
 have ho : ∀ o ov, e.obj o = some ov → β' o = β o := fun o ov h' => h o (.inr ⟨_, bW h', .inl rfl⟩)
 refine H.go (fun _ => False) rfl rfl rfl (Nat.le_refl _) (fun _ _ _ => rfl) (fun _ h => h.elim) (fun _ h => h) (fun _ _ _ _ h => h) H.sf H.nd H.nt (fun _ _ => rfl)
  (fun s sv hs => .inl ⟨hs, rfl, fun n hn => h n (.inl ⟨_, bW hs, hn⟩)⟩)
  (fun o ov ho' => .inl ⟨ho', ho o ov ho', fun n hn => h n (.inr ⟨_, bW ho', .inr hn⟩), fun _ _ => ⟨id, fun _ h => h⟩⟩) (fun o o' ov ov' g hne h1 h2 => ?_)
 have hs : ∀ ov : OV, HM SF SF ov := fun ov => by cases ov <;> first | trivial | exact fun _ _ _ h => h
 exact fun q1 q2 => H.inj o o' ov ov' g hne h1 h2 (q1.back (hs _) (ho o ov h1)) (q2.back (hs _) (ho o' ov' h2))
theorem aC.add (H : aC c β SF e a w) {o : Nat} {ov : OV} (hob : cS c.SA SF β w o ov)
  (hown : ∀ g, bI SF β o ov g → g < w.heap.size ∧ ((ov.st = 0 ∧ c.w0.heap.size ≤ g ∧ ¬ SF g) ∨ (ov.st = 1 ∧ SF g) ∨ (ov.st = 2 ∧ (c.tq g ∨ c.w0.heap.size ≤ g ∧ ¬ SF g))) ∧ ∀ o' ov', o' ≠ o → e.obj o' = some ov' → ¬ bI SF β o' ov' g) :
  aC c β SF (e.put (.obj o (some ov))) a w := by
 refine H.go (fun _ => False) rfl rfl rfl (Nat.le_refl _) (fun _ _ _ => rfl) (fun _ h => h.elim) (fun _ h => h) (fun _ _ _ _ h => h) H.sf H.nd H.nt (fun _ _ => rfl)
  (fun s sv hs => .inl ⟨hs, rfl, fun _ _ => rfl⟩) (fun o' ov' ho' => ?_) (fun o1 o2 ov1 ov2 g hne12 h1 h2 hg1 hg2 => ?_)
 ·rw [ai] at ho'
  by_cases h : o = o'
  ·subst h
   rw [if_pos rfl] at ho'
   cases ho'
   exact .inr ⟨hob, fun g hg => ⟨(hown g hg).1, (hown g hg).2.1⟩⟩
  ·rw [if_neg h] at ho'
   exact .inl ⟨ho', rfl, fun _ _ => rfl, fun _ _ => ⟨id, fun _ h => h⟩⟩
 ·rw [ai] at h1 h2
  by_cases e1 : o = o1
  ·subst e1
   rw [if_neg hne12] at h2
   rw [if_pos rfl] at h1
   cases h1
   exact (hown g hg1).2.2 o2 _ (fun h => hne12 h.symm) h2 hg2
  ·rw [if_neg e1] at h1
   by_cases e2 : o = o2
   ·subst e2
    rw [if_pos rfl] at h2
    cases h2
    exact (hown g hg2).2.2 o1 _ hne12 h1 hg1
   ·rw [if_neg e2] at h2
    exact H.inj o1 o2 _ _ g hne12 h1 h2 hg1 hg2
def QG (c : Ctx) (ov : OV) (g : Nat) : Prop := (ov.st = 0 ∧ c.w0.heap.size ≤ g) ∨ (ov.st = 2 ∧ (c.tq g ∨ c.w0.heap.size ≤ g))
def l5 (c : Ctx) (β : Nat → Value) (SF : Loc → Prop) (w : World) : List W → List Nat → Prop
 | [], bs => bs = []
 | .obj n (some ov) :: r, bs => ∃ b1 b, bs = b1 ++ b ∧ (∀ g, g ∈ b1 ↔ bI SF β n ov g) ∧ cS c.SA SF β w n ov ∧ (∀ g ∈ b1, QG c ov g) ∧ l5 c β SF w r b
 | _ :: _, _ => False
theorem l5.append : ∀ {l m : List W} {b1 b2 : List Nat}, l5 c β SF w l b1 → l5 c β SF w m b2 → l5 c β SF w (l ++ m) (b1 ++ b2)
 | [], _, _, _, h, h' => by simp only [l5] at h; subst h; exact h'
 | .obj n (some ov) :: l, m, _, b2, ⟨b0, b, h1, h0, h2, h3, h4⟩, h' => ⟨b0, b ++ b2, by rw [h1, List.append_assoc], h0, h2, h3, h4.append h'⟩
 | .obj _ none :: _, _, _, _, h, _ => h.elim
 | .slot _ _ :: _, _, _, _, h, _ => h.elim
theorem rJ {v : Value} {o : Nat} {ov : OV} (hf : ov.flat) (hv : β o = v) (g : Nat) : g ∈ (bo v).toList ↔ bI SF β o ov g := by
 subst hv
 rw [Option.mem_toList]
 exact ⟨fun h => bI.of hf h, fun h => h.flat hf⟩
theorem zg : ∀ {ws : List W} {bs : List Nat} {e : Env}, aC c β SF e a w → l5 c β SF w ws bs → (cw ws).Nodup → (∀ n ∈ cw ws, e.obj n = none) → bs.Nodup →
  (∀ k ∈ bs, k < w.heap.size ∧ ¬ SF k ∧ ∀ o ov, e.obj o = some ov → ¬ bI SF β o ov k) → aC c β SF (e.aF ws) a w
 | [], _, _, H, _, _, _, _, _ => H
 | .obj _ none :: _, _, _, _, h, _, _, _, _ => h.elim
 | .slot _ _ :: _, _, _, _, h, _, _, _, _ => h.elim
 | .obj n (some ov) :: ws, _, e, H, ⟨b0, b, rfl, h0, h2, h3, h4⟩, hn, hnone, hnd, hb => by
  simp only [cw, List.nodup_cons] at hn
  obtain ⟨d1, d2, d3⟩ := List.nodup_append.1 hnd
  rw [Env.a7]
  refine zg (H.add h2 fun g hg => ?_) h4 hn.2 (fun m hm => ?_) d2 (fun k hk => ?_)
  ·have hg := (h0 g).2 hg
   obtain ⟨b1, b2, b3⟩ := hb g (List.mem_append_left _ hg)
   refine ⟨b1, ?_, fun o' ov' _ h => b3 o' ov' h⟩
   rcases h3 g hg with h | h
   ·exact .inl ⟨h.1, h.2, b2⟩
   ·exact .inr (.inr ⟨h.1, h.2.imp id fun h => ⟨h, b2⟩⟩)
  ·rw [ai, if_neg]
   ·exact hnone m (by simp only [cw, List.mem_cons]; exact .inr hm)
   ·rintro rfl; exact hn.1 hm
  ·obtain ⟨b1, b2, b3⟩ := hb k (List.mem_append_right _ hk)
   refine ⟨b1, b2, fun o ov' ho => ?_⟩
   rw [ai] at ho
   split at ho
   ·subst_vars
    cases ho
    intro hk'
    exact d3 k ((h0 k).2 hk') k hk rfl
   ·exact b3 o ov' ho
theorem nB {v : Env} (hv : ∀ o ov, v.obj o = some ov → e.obj o = some ov) : ∀ {l : List Nat} {fz : List W}, tT v l = some fz → ∀ {e' : Env} {SF : Loc → Prop}, aC c β SF e' a w →
  (∀ o ∈ l, ∀ (t : Ty) (et : Nat) (xs : List t.den) (f : Bool) (st : Nat), e.obj o = some (.row t et xs f st) → e'.obj o = some (.row t et xs f st) ∨ e'.obj o = some (.row t et xs f 1)) →
  ∃ SF', (∀ k, SF k → SF' k) ∧ yG SF' SF ∧ (∀ o ∈ l, (∃ ov, e.obj o = some ov ∧ ov.flat) ∧ ∀ k : Nat, bo (β o) = some k → SF' k) ∧ aC c β SF' (e'.aF fz) a w ∧ (∀ n, n ∉ l → (e'.aF fz).obj n = e'.obj n) ∧ (∀ n, (e'.aF fz).slot n = e'.slot n) ∧
   (∀ n, dF (e'.aF fz) n → dF e' n ∨ n ∈ l)
 | [], fz, h, e', SF, H, _ => by
  simp only [tT] at h
  cases h
  exact ⟨SF, fun _ h => h, fun _ _ _ _ h => h, fun o ho => (by cases ho), H, fun _ _ => rfl, fun _ => rfl, fun n h => .inl h⟩
 | o :: l, fz, h, e', SF, H, hq => by
  simp only [tT] at h
  split at h
  ·rename_i t et xs f ws ho hws
   cases h
   have ho := hv _ _ ho
   have key : ∀ (e1 : Env) (SF1 : Loc → Prop), e1 = e'.put (.obj o (some (.row t et xs f 1))) → (∀ k, SF k → SF1 k) → yG SF1 SF → aC c β SF1 e1 a w →
     ∃ SF', (∀ k, SF k → SF' k) ∧ yG SF' SF ∧ (∀ n ∈ o :: l, (∃ ov, e.obj n = some ov ∧ ov.flat) ∧ ∀ k : Nat, bo (β n) = some k → SF' k) ∧ aC c β SF' (e1.aF ws) a w ∧ (∀ n, n ∉ o :: l → (e1.aF ws).obj n = e'.obj n) ∧ (∀ n, (e1.aF ws).slot n = e'.slot n) ∧
      (∀ n, dF (e1.aF ws) n → dF e' n ∨ n ∈ o :: l) := by
    intro e1 SF1 he h1 hm h2
    have hobj : ∀ n, e1.obj n = if o = n then some (.row t et xs f 1) else e'.obj n := fun n => by rw [he, ai]
    obtain ⟨SF2, k1, km, k2, k3, k4, k5, k6⟩ := nB hv hws h2 (fun n hn t' et' xs' f' st' hn' => by
     rw [hobj]
     split
     ·subst_vars
      rw [ho] at hn'
      cases hn'
      exact .inr rfl
     ·exact hq n (List.mem_cons_of_mem _ hn) t' et' xs' f' st' hn')
    refine ⟨SF2, fun k hk => k1 k (h1 k hk), fun et' k' g' C' h => hm _ _ _ _ (km _ _ _ _ h), fun n hn => ?_, k3, fun n hn => ?_, fun n => by rw [k5, he]; rfl, fun n hn => ?_⟩
    ·rcases List.mem_cons.1 hn with rfl | hn
     ·refine ⟨⟨_, ho, trivial⟩, fun k hk => ?_⟩
      rcases (h2.own n (.row t et xs f 1) k (by rw [hobj, if_pos rfl]) hk).2 with h | h | h
      ·exact absurd h.1 (by simp [OV.st])
      ·exact k1 k h.2
      ·exact absurd h.1 (by simp [OV.st])
     ·exact k2 n hn
    ·rw [List.mem_cons, not_or] at hn
     rw [k4 n hn.2, hobj, if_neg fun h => hn.1 h.symm]
    ·rcases k6 n hn with h | h
     ·rw [he, yU] at h
      rcases h with h | h
      ·exact .inl h
      ·simp only [dx, OV.names, List.mem_singleton] at h
       exact .inr (by rw [h]; exact List.mem_cons_self ..)
     ·exact .inr (List.mem_cons_of_mem _ h)
   rw [Env.a7]
   rcases hq o (List.mem_cons_self ..) t et xs f 0 ho with h1 | h1
   ·exact key _ _ rfl fz.sub fz.mem (H.freeze h1)
   ·exact key _ _ rfl (fun _ h => h) (fun _ _ _ _ h => h) (H.qe h1 (.inl rfl) (H.aY _ _ h1))
  ·rename_i t et xs f ws ho hws
   cases h
   have ho := hv _ _ ho
   obtain ⟨SF2, k1, km, k2, k3, k4, k5, k6⟩ := nB hv hws H (fun n hn => hq n (List.mem_cons_of_mem _ hn))
   refine ⟨SF2, k1, km, fun n hn => ?_, k3, fun n hn => k4 n fun h => hn (List.mem_cons_of_mem _ h), k5, fun n hn => (k6 n hn).imp id (List.mem_cons_of_mem _)⟩
   rcases List.mem_cons.1 hn with rfl | hn
   ·have h1 : e'.obj n = some (.row t et xs f 1) := (hq n (List.mem_cons_self ..) t et xs f 1 ho).elim id id
    refine ⟨⟨_, ho, trivial⟩, fun k hk => ?_⟩
    rcases (H.own n (.row t et xs f 1) k h1 hk).2 with h | h | h
    ·exact absurd h.1 (by simp [OV.st])
    ·exact k1 k h.2
    ·exact absurd h.1 (by simp [OV.st])
   ·exact k2 n hn
  ·cases h
theorem wS : ∀ {l : List Nat} {e : Env}, aC c β SF e a w → aC c β SF (e.aF (l.map fun n => .obj n none)) a w ∧
  (∀ n, (e.aF (l.map fun n => .obj n none)).obj n = if n ∈ l then none else e.obj n) ∧ (∀ s, (e.aF (l.map fun n => .obj n none)).slot s = e.slot s)
 | [], e, H => ⟨H, fun n => by simp [Env.jX], fun _ => rfl⟩
 | o :: l, e, H => by
  rw [List.map_cons, Env.a7]
  obtain ⟨h1, h2, h3⟩ := wS (l := l) (H.drop o)
  refine ⟨h1, fun n => ?_, fun s => by rw [h3]; rfl⟩
  rw [h2, ai]
  by_cases hn : n ∈ l
  ·rw [if_pos hn, if_pos (List.mem_cons_of_mem _ hn)]
  ·rw [if_neg hn]
   by_cases ho : o = n
   ·rw [if_pos ho, if_pos (by rw [ho]; exact List.mem_cons_self ..)]
   ·rw [if_neg ho, if_neg]
    rw [List.mem_cons, not_or]
    exact ⟨fun h => ho h.symm, hn⟩
end
end Go.Px
