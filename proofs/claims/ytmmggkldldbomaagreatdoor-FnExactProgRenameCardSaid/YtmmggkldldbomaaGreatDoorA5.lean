/- Own texts, part A5: PyA PyB PyC PyE PyD. -/
import Derived.Test.YtmmggkldldbomaaGreatDoorA4
import Derived.Laws.StructEq
import Derived.Laws.Small
import Derived.ChangeKeysEq
import Derived.KernelRfl
set_option linter.unusedVariables false
namespace Go.Px
open Go
section
variable {P : Program} {cx : Cx} {c : Ctx} {β : Nat → Value} {SF' SF2 : Loc → Prop} {S' : Nat → Prop} {e : Env} {a : Act} {w : World} {fresh : Bool} {d st : Nat}
def uE (ms : List (Nat × Ty)) (S S' : Loc → Prop) : Prop := ∀ p ∈ ms, ∀ k g C, S (.m p.1 k g C) → S' (.m p.1 k g C)
theorem bm.Ic {h : Array Obj} {S S' : Loc → Prop} {ms : List (Nat × Ty)} (hS : ∀ k : Nat, S k → S' k) (hm : uE ms S S') : ∀ {t : Ty} {cs : List Value} {x : t.den}, mS ms t = true → bm h S t cs x → bm h S' t cs x
 | .int _, _, _, _, hr => hr
 | .bool, _, _, _, hr => hr
 | .str, _, _, _, hr => hr
 | .err, _, _, _, hr => hr
 | .mp, _, _, _, hr => hr
 | .nil, _, _, _, hr => hr
 | .cons _ _, _, _, hi, ⟨c, d, e, h1, h2⟩ => by
  simp only [mS, Bool.and_eq_true] at hi
  exact ⟨c, d, e, bm.Ic hS hm hi.1 h1, bm.Ic hS hm hi.2 h2⟩
 | .slice el, _, _, hi, ⟨a, n, c, e1, e2, e3, h1⟩ => ⟨a, n, c, e1, e2, e3, h1.imp id fun ⟨g, off, arr, et, fr, f1, f2, f3, f4, f5⟩ =>
   ⟨g, off, arr, et, fr, f1, hS _ f2, f3, f4, f5.mono fun _ _ hr => bm.Ic (t := el) hS hm hi hr⟩⟩
 | .aI _ _, _, _, hi, ⟨b, n, c, e1, e2, e3, h1⟩ => by
  simp only [mS, Bool.and_eq_true] at hi
  obtain ⟨p, hp, hpe⟩ := List.any_eq_true.1 hi.1
  have hpe := Nat.eq_of_beq_eq_true hpe
  subst hpe
  exact ⟨b, n, c, e1, e2, e3, h1.imp id fun ⟨g, C, f1, f2, f3⟩ => ⟨g, C, f1, f2, hm p hp _ _ _ f3⟩⟩
theorem conv {h : Array Obj} {SA : Nat → Prop} {ms : List (Nat × Ty)} {t : Ty} {vs : List Value} {x : t.den} {f : Bool} (h1 : ∀ k : Nat, SF' k → SF2 k) (hm : uE ms SF' SF2) (hi : mS ms t = true) (hS : cE t = true → f = false → ∀ k : Nat, S' k → (fresh = false ∧ SA k) ∨ SF2 k)
  (H : bm h (S2 S' SF' f) t vs x) : bm h (S2 SA SF2 (f || fresh || !(cE t))) t vs x := by
 have h2 : bm h (S2 S' SF2 f) t vs x := bm.Ic (fun k hk => hk.imp (h1 k) id) (fun p hp k g C hk => .inl (hm p hp k g C (hk.elim id fun h => h.2.elim))) hi H
 cases hs : cE t with
 | false => exact bm.lT (fun _ _ _ _ h => .inl (h.elim id fun h => h.2.elim)) hs h2
 | true =>
  refine bm.mono (fun l hl => ?_) (fun _ _ => rfl) h2
  cases f with
  | true => exact hl.elim .inl fun h => by cases h.1
  | false =>
   rcases hl with hl | ⟨_, hl⟩
   ·exact .inl hl
   ·cases l with
    | m => exact hl.elim
    | b k =>
     rcases hS hs rfl k hl with ⟨h2, h3⟩ | h2
     ·exact .inr ⟨by simp [h2], h3⟩
     ·exact .inl h2
def fu (SA S' : Nat → Prop) (SF2 : Loc → Prop) (fresh : Bool) (l : List eZ) : Prop := lS l = true → ∀ k : Nat, S' k → (fresh = false ∧ SA k) ∨ SF2 k
theorem lu : ∀ {l m : List eZ}, lS (l ++ m) = (lS l || lS m)
 | [], _ => by simp [lS]
 | .val t f :: l, m => by simp only [List.cons_append, lS]; rw [lu, Bool.or_assoc]
 | .row t et f :: l, m => by simp only [List.cons_append, lS]; rw [lu, Bool.or_assoc]
theorem fu.left {SA : Nat → Prop} {l m : List eZ} (h : fu SA S' SF2 fresh (l ++ m)) : fu SA S' SF2 fresh l := fun hl => h (by rw [lu, hl]; rfl)
theorem fu.right {SA : Nat → Prop} {l m : List eZ} (h : fu SA S' SF2 fresh (l ++ m)) : fu SA S' SF2 fresh m := fun hl => h (by rw [lu, hl, Bool.or_true])
def DT (d : Nat) (β' γ : Nat → Value) (lo hi : Nat) : Prop := ∀ i, lo ≤ i → i < hi → β' (nm d i) = γ i
theorem range'_succ (j n : Nat) : List.range' j (n + 1) = j :: List.range' (j + 1) n := rfl
theorem gH {ms : List (Nat × Ty)} : ∀ {l m : List eZ}, ec ms (l ++ m) = (ec ms l && ec ms m)
 | [], _ => by simp [ec]
 | .val t f :: l, m => by simp only [List.cons_append, ec]; rw [gH, Bool.and_assoc]
 | .row t et f :: l, m => by simp only [List.cons_append, ec]; rw [gH, Bool.and_assoc]
theorem gw {ms : List (Nat × Ty)} (h1 : ∀ k : Nat, SF' k → SF2 k) (hm : uE ms SF' SF2) : ∀ {l : List eZ} {j : Nat} {p : cR l} {vs : List Value} {bs : List Nat}, cH w S' SF' l p vs bs → fu c.SA S' SF2 fresh l → ec ms l = true →
  (ea d fresh st j l p).2.2 = j + aE l ∧ cw (ea d fresh st j l p).2.1 = (List.range' j (aE l)).map (nm d) ∧
  ∃ γ, ∀ β', DT d β' γ j (j + aE l) → ao w.heap c.SA SF2 β' (ea d fresh st j l p).1 vs ∧
   ((∀ k ∈ bs, (st = 0 ∧ c.w0.heap.size ≤ k) ∨ (st = 2 ∧ (c.tq k ∨ c.w0.heap.size ≤ k))) → l5 c β' SF2 w (ea d fresh st j l p).2.1 bs)
 | [], j, p, vs, bs, ⟨e1, e2⟩, _, _ => by
  subst e1 e2
  exact ⟨rfl, rfl, fun _ => undef, fun β' _ => ⟨rfl, fun _ => rfl⟩⟩
 | .val t f :: l, j, p, _, bs, ⟨v, r, rfl, h2, h3⟩, hL, hi => by
  simp only [ec, Bool.and_eq_true] at hi
  obtain ⟨k1, k2, γ, k3⟩ := gw h1 hm (j := j) h3 (fun hl => hL (by simp [lS, hl])) hi.2
  exact ⟨k1, k2, γ, fun β' hA => ⟨⟨v, r, rfl, conv h1 hm hi.1 (fun hs hf => hL (by simp [lS, hs, hf])) h2, (k3 β' hA).1⟩, (k3 β' hA).2⟩⟩
 | .row t et f :: l, j, p, _, _, ⟨v, r, cells, b, rfl, rfl, h0, h2, h3⟩, hL, hi => by
  simp only [ec, Bool.and_eq_true] at hi
  obtain ⟨k1, k2, γ, k3⟩ := gw h1 hm (j := j + 1) h3 (fun hl => hL (by simp [lS, hl])) hi.2
  have hc : j + aE (.row t et f :: l) = j + 1 + aE l := by simp only [aE]; omega
  refine ⟨by rw [hc]; exact k1, ?_, fun i => if i = j then v else γ i, fun β' hA => ?_⟩
  ·simp only [ea, cw, aE, k2, range'_succ, List.map_cons]
  ·have hv : β' (nm d j) = v := (hA j (Nat.le_refl _) (by rw [hc]; omega)).trans (if_pos rfl)
   obtain ⟨q1, q2⟩ := k3 β' (fun i hi hi' => (hA i (by omega) (by rw [hc]; exact hi')).trans (if_neg (by omega)))
   refine ⟨⟨v, r, rfl, ⟨hv.symm, iq h0⟩, q1⟩, fun hst => ⟨_, b, rfl, rJ trivial hv, ⟨cells, by rw [hv]; exact h0, h2.mono fun _ _ hr => conv h1 hm hi.1 (fun hs hf => hL (by simp [lS, hs, hf])) hr⟩, fun g hg => hst g (List.mem_append_left _ hg), q2 fun k hk => hst k (List.mem_append_right _ hk)⟩⟩
theorem tB {ms : List (Nat × Ty)} (h1 : ∀ k : Nat, SF' k → SF2 k) (hm : uE ms SF' SF2) : ∀ {l : List (Nat × List eZ)} {j : Nat} {p : cR (aK l)} {us : List Value} {bs : List Nat}, iK w S' SF' l p us bs → fu c.SA S' SF2 fresh (aK l) → ec ms (aK l) = true →
  (outs d fresh st j l p).2.2 = j + bj l ∧ cw (outs d fresh st j l p).2.1 = (List.range' j (bj l)).map (nm d) ∧
  ∃ γ bs', bs'.Perm bs ∧ ∀ β', DT d β' γ j (j + bj l) → gk (lf w.heap c.SA SF2 β') (outs d fresh st j l p).1 us ∧
   ((∀ k ∈ bs, (st = 0 ∧ c.w0.heap.size ≤ k) ∨ (st = 2 ∧ (c.tq k ∨ c.w0.heap.size ≤ k))) → l5 c β' SF2 w (outs d fresh st j l p).2.1 bs')
 | [], j, p, us, bs, ⟨e1, e2⟩, _, _ => by
  subst e1 e2
  exact ⟨rfl, rfl, fun _ => undef, [], .refl _, fun β' _ => ⟨rfl, fun _ => rfl⟩⟩
 | bc :: l, j, p, _, _, ⟨v, r, b1, b2, rfl, rfl, h2, h3⟩, hL, hi => by
  obtain ⟨k, cs⟩ := bc
  have hi2 : ec ms (cs ++ aK l) = true := hi
  rw [gH, Bool.and_eq_true] at hi2
  clear hi
  have hL1 : fu c.SA S' SF2 fresh cs := fu.left (m := aK l) hL
  have hL2 : fu c.SA S' SF2 fresh (aK l) := fu.right (l := cs) hL
  rcases h2 with ⟨hk, g, arr, et, b, rfl, harr, hc, rfl⟩ | ⟨hk, us, hc, rfl⟩
  ·subst hk
   obtain ⟨a1, a2, γ1, a3⟩ := gw (c := c) (d := d) (st := st) h1 hm (j := j) hc hL1 hi2.1
   obtain ⟨q1, q2, γ2, bs', q3, q4⟩ := tB h1 hm (j := j + aE cs + 1) h3 hL2 hi2.2
   have hcnt : bj ((2, cs) :: l) = aE cs + (1 + bj l) := by simp only [bj]; show aE cs + 1 + bj l = _; omega
   have e1 : outs d fresh st j ((2, cs) :: l) p = ((false, [.ptr (nm d (j + aE cs)) 0]) :: (outs d fresh st (j + aE cs + 1) l (cR.split cs (aK l) p).2).1,
     (ea d fresh st j cs (cR.split cs (aK l) p).1).2.1 ++ .obj (nm d (j + aE cs)) (some (.box (ea d fresh st j cs (cR.split cs (aK l) p).1).1 st)) :: (outs d fresh st (j + aE cs + 1) l (cR.split cs (aK l) p).2).2.1,
     (outs d fresh st (j + aE cs + 1) l (cR.split cs (aK l) p).2).2.2) := by
    rw [← a1]; rfl
   rw [e1, hcnt]
   refine ⟨by rw [q1]; omega, ?_, fun i => if i < j + aE cs then γ1 i else if i = j + aE cs then .pointer (some ⟨g, 0, none⟩) else γ2 i, b ++ g :: bs', ?_, fun β' hA => ?_⟩
   ·have hw : ∀ (l m : List W) (n : Nat) (x : Option OV), cw (l ++ .obj n x :: m) = cw l ++ n :: cw m := fun l => by
     induction l with
     | nil => intro m n x; rfl
     | cons y l ih => intro m n x; cases y <;> simp [cw, ih]
    simp only [hw, a2, q2]
    rw [← List.range'_append_1, List.map_append, Nat.add_comm 1, range'_succ, List.map_cons]
   ·exact (List.perm_middle.trans ((List.Perm.append_left _ q3).cons g)).trans (by simp)
   ·have hv : β' (nm d (j + aE cs)) = .pointer (some ⟨g, 0, none⟩) := (hA _ (by omega) (by omega)).trans ((if_neg (Nat.lt_irrefl _)).trans (if_pos rfl))
    obtain ⟨x1, x2⟩ := a3 β' fun i hi (hi' : i < j + aE cs) => (hA i hi (by omega)).trans (if_pos hi')
    obtain ⟨y1, y2⟩ := q4 β' fun i hi hi' => (hA i (by omega) (by omega)).trans ((if_neg (by omega)).trans (if_neg (by omega)))
    refine ⟨⟨_, r, rfl, ⟨[.pointer (some ⟨g, 0, none⟩)], ⟨_, [], rfl, ⟨g, hv, rfl⟩, rfl⟩, rfl⟩, y1⟩, fun hst => ?_⟩
    exact (x2 fun k hk => hst k (by simp [hk])).append ⟨[g], bs', rfl, rJ (v := .pointer (some ⟨g, 0, none⟩)) trivial hv, ⟨g, arr, et, hv, harr, x1⟩, fun g' hg' => hst g' (by rw [List.mem_singleton.1 hg']; simp), y2 fun k hk => hst k (by simp [hk])⟩
  ·obtain ⟨a1, a2, γ1, a3⟩ := gw (c := c) (d := d) (st := st) h1 hm (j := j) hc hL1 hi2.1
   obtain ⟨q1, q2, γ2, bs', q3, q4⟩ := tB h1 hm (j := j + aE cs) h3 hL2 hi2.2
   have hkb : Nat.beq k 2 = false := by
    cases hb : Nat.beq k 2
    ·rfl
    ·exact absurd (Nat.eq_of_beq_eq_true hb) hk
   have hcnt : bj ((k, cs) :: l) = aE cs + bj l := by simp only [bj, hkb]; show aE cs + 0 + bj l = _; omega
   have e1 : outs d fresh st j ((k, cs) :: l) p = ((Nat.beq k 1, (ea d fresh st j cs (cR.split cs (aK l) p).1).1) :: (outs d fresh st (j + aE cs) l (cR.split cs (aK l) p).2).1,
     (ea d fresh st j cs (cR.split cs (aK l) p).1).2.1 ++ (outs d fresh st (j + aE cs) l (cR.split cs (aK l) p).2).2.1,
     (outs d fresh st (j + aE cs) l (cR.split cs (aK l) p).2).2.2) := by
    rw [← a1]
    show cond (Nat.beq k 2) _ _ = _
    rw [hkb]; rfl
   rw [e1, hcnt]
   refine ⟨by rw [q1]; omega, ?_, fun i => if i < j + aE cs then γ1 i else γ2 i, b1 ++ bs', List.Perm.append_left _ q3, fun β' hA => ?_⟩
   ·have hw : ∀ (l m : List W), cw (l ++ m) = cw l ++ cw m := fun l => by
     induction l with
     | nil => intro m; rfl
     | cons y l ih => intro m; cases y <;> simp [cw, ih]
    simp only [hw, a2, q2]
    rw [← List.range'_append_1, List.map_append]
   ·obtain ⟨x1, x2⟩ := a3 β' fun i hi (hi' : i < j + aE cs) => (hA i hi (by omega)).trans (if_pos hi')
    obtain ⟨y1, y2⟩ := q4 β' fun i hi hi' => (hA i (by omega) (by omega)).trans (if_neg (by omega))
    refine ⟨⟨_, r, rfl, ⟨us, x1, rfl⟩, y1⟩, fun hst => ?_⟩
    exact (x2 fun k hk => hst k (by simp [hk])).append (y2 fun k hk => hst k (by simp [hk]))
def JS (v : Env) (o : Nat) : Nat := match v.obj o with | some (.box _ st) => st | _ => 0
theorem wT {ms : List (Nat × Ty)} (h1 : ∀ k : Nat, SF' k → SF2 k) (hm : uE ms SF' SF2) {v : Env} : ∀ {l : List (List eZ)} {j : Nat} {p : cR l.flatten} {bx : ze} {bs : List Nat}, fg w S' SF' l p (bx.map fun b => β b.1) bs → fu c.SA S' SF2 fresh l.flatten → ec ms l.flatten = true →
  (cw (qa v d fresh st j l bx p)).Perm ((List.range' j (b6 l)).map (nm d) ++ bx.map (·.1)) ∧
  ∃ γ bs', bs'.Perm bs ∧ ∀ β', DT d β' γ j (j + b6 l) → (∀ b ∈ bx, β' b.1 = β b.1) →
   (∀ k ∈ bs, (st = 0 ∧ c.w0.heap.size ≤ k) ∨ (st = 2 ∧ (c.tq k ∨ c.w0.heap.size ≤ k))) → (∀ b ∈ bx, ∀ g, bo (β b.1) = some g → (JS v b.1 = 0 ∧ c.w0.heap.size ≤ g) ∨ (JS v b.1 = 2 ∧ (c.tq g ∨ c.w0.heap.size ≤ g))) →
   l5 c β' SF2 w (qa v d fresh st j l bx p) bs'
 | [], j, p, bx, bs, ⟨e1, e2⟩, _, _ => by
  have e3 : bx = [] := List.map_eq_nil_iff.1 e1
  subst e2 e3
  exact ⟨.refl _, fun _ => undef, [], .refl _, fun β' _ _ _ _ => rfl⟩
 | cs :: l, j, p, [], bs, ⟨v', r, b1, b2, e1, _⟩, hL, _ => by cases e1
 | cs :: l, j, p, (o, x, y) :: bx, bs, ⟨v', r, b1, b2, e1, e2, ⟨g, arr, et, b, e3, harr, hc, e4⟩, h3⟩, hL, hi => by
  have hi : ec ms (cs ++ l.flatten) = true := hi
  rw [gH, Bool.and_eq_true] at hi
  simp only [List.map_cons, List.cons.injEq] at e1
  obtain ⟨e1, e5⟩ := e1
  subst e2 e4 e5
  have hL1 : fu c.SA S' SF2 fresh cs := fu.left (m := l.flatten) hL
  have hL2 : fu c.SA S' SF2 fresh l.flatten := fu.right (l := cs) hL
  obtain ⟨a1, a2, γ1, a3⟩ := gw (c := c) (d := d) (st := st) h1 hm (j := j) hc hL1 hi.1
  obtain ⟨q2, γ2, bs', q3, q4⟩ := wT h1 hm (v := v) (j := j + aE cs) h3 hL2 hi.2
  have ee : qa v d fresh st j (cs :: l) ((o, x, y) :: bx) p = (ea d fresh st j cs (cR.split cs l.flatten p).1).2.1 ++
    (.obj o (some (.box (ea d fresh st j cs (cR.split cs l.flatten p).1).1 (JS v o))) :: qa v d fresh st (j + aE cs) l bx (cR.split cs l.flatten p).2) := by
   rw [← a1]; rfl
  have hcnt : b6 (cs :: l) = aE cs + b6 l := rfl
  rw [ee, hcnt]
  refine ⟨?_, fun i => if i < j + aE cs then γ1 i else γ2 i, b ++ g :: bs', ?_, fun β' hA hB hst hbx => ?_⟩
  ·have hw : ∀ (l m : List W) (n : Nat) (x : Option OV), cw (l ++ .obj n x :: m) = cw l ++ n :: cw m := fun l => by
    induction l with
    | nil => intro m n x; rfl
    | cons y l ih => intro m n x; cases y <;> simp [cw, ih]
   rw [hw, a2, ← List.range'_append_1, List.map_append, List.append_assoc]
   refine List.Perm.append_left _ ?_
   rw [List.map_cons]
   exact (q2.cons o).trans List.perm_middle.symm
  ·exact (List.perm_middle.trans ((List.Perm.append_left _ q3).cons g)).trans (by simp)
  ·have hv : β' o = .pointer (some ⟨g, 0, none⟩) := by rw [hB (o, x, y) (List.mem_cons_self ..)]; exact e1.trans e3
   obtain ⟨x1, x2⟩ := a3 β' fun i hi (hi' : i < j + aE cs) => (hA i hi (by omega)).trans (if_pos hi')
   have y2 := q4 β' (fun i hi hi' => (hA i (by omega) (by omega)).trans (if_neg (by omega))) (fun b hb => hB b (List.mem_cons_of_mem _ hb)) (fun k hk => hst k (by simp [hk])) (fun b hb => hbx b (List.mem_cons_of_mem _ hb))
   exact (x2 fun k hk => hst k (by simp [hk])).append ⟨[g], bs', rfl, rJ (v := .pointer (some ⟨g, 0, none⟩)) trivial hv, ⟨g, arr, et, hv, harr, x1⟩, fun g' hg' => hbx (o, x, y) (List.mem_cons_self ..) g' (by rw [e1, e3, List.mem_singleton.1 hg']; rfl), y2⟩
end
end Go.Px
namespace Go.Px
open Go
def Enters (P : Program) (f : FuncId) : Prop := ∃ fn, P.funcs[f]? = some fn ∧ fn.body.isNone = false ∧ (fn.name == "runtime.NumGoroutine") = false
def BY (P : Program) (G : gl) (D : Den) : Prop := ∀ f key fd, D f key = some fd → bU P G f fd ∧ Enters P f
section
variable {P : Program} {cx : Cx} {c : Ctx} {β : Nat → Value} {SF : Loc → Prop} {e : Env} {a : Act} {w : World} {ve : Env} [Sub ve e]
theorem Ie {f : FuncId} (h : Enters P f) {dst : Option Tmp} {x : Operand} {xs : Array Operand} {ats : Array TypeId} {ty : TypeId} {pos : String} {af : Array Edge} {g : Option (Nat × Bool)} {caps : Array Value}
  (hx : a.eval x = .func (.func f) #[] caps) : (execOp a.eval ⟨dst, .call ⟨.value x, xs, ats⟩, ty, pos, af, g⟩).run P w = .ok (.enter f (xs.map a.eval ++ caps)) w := by
 obtain ⟨fn, h1, h2, h3⟩ := h
 have e1 : execOp a.eval ⟨dst, .call ⟨.value x, xs, ats⟩, ty, pos, af, g⟩ = callFunc f (#[] ++ xs.map a.eval ++ caps) := by
  simp only [execOp, resolve, hx]
  rfl
 rw [e1, Array.empty_append]
 unfold callFunc
 simp only [Sem.run_bind, run_program, Result.andThen_ok, h1, h2, h3, Bool.false_eq_true, if_false]
 rfl
theorem A9 (H : aC c β SF e a w) : ∀ {xs : List Operand} {l : List SV}, AR ve xs = some l → gk (eg w.heap c.SA SF β) l (xs.map a.eval)
 | [], l, h => by simp only [AR] at h; cases h; rfl
 | x :: xs, l, h => by
  simp only [AR] at h
  split at h
  ·rename_i s l' h1 h2
   cases h
   exact ⟨_, _, rfl, cY H h1, A9 H h2⟩
  ·cases h
theorem gk.append {α : Type} {R : α → Value → Prop} : ∀ {l m : List α} {vs us : List Value}, gk R l vs → gk R m us → gk R (l ++ m) (vs ++ us)
 | [], _, _, _, h, h' => by simp only [gk] at h; subst h; exact h'
 | x :: l, m, _, us, ⟨v, r, h1, h2, h3⟩, h' => ⟨v, r ++ us, by rw [h1]; rfl, h2, h3.append h'⟩
theorem gk.length {α : Type} {R : α → Value → Prop} : ∀ {l : List α} {vs : List Value}, gk R l vs → vs.length = l.length
 | [], _, h => by simp only [gk] at h; subst h; rfl
 | x :: l, _, ⟨v, r, h1, h2, h3⟩ => by rw [h1, List.length_cons, List.length_cons, h3.length]
theorem oW {v : Env} : ∀ {xs : List Cell} {st : Nat}, wC v st xs = 0 → st = 0 ∧ ∀ n, Cell.row n ∈ xs → ∀ (t : Ty) (et : Nat) (ys : List t.den) (f : Bool), v.obj n ≠ some (.row t et ys f 2)
 | [], st, h => ⟨h, fun n hn => (by cases hn)⟩
 | x :: xs, st, h => by
  cases x with
  | row o =>
   simp only [wC] at h
   split at h
   ·cases h
   ·rename_i hne
    obtain ⟨h1, h2⟩ := oW h
    refine ⟨h1, fun n hn t et ys f hc => ?_⟩
    rcases List.mem_cons.1 hn with hn | hn
    ·cases hn
     exact hne _ _ _ _ hc
    ·exact h2 n hn t et ys f hc
  | _ =>
   simp only [wC] at h
   obtain ⟨h1, h2⟩ := oW h
   refine ⟨h1, fun n hn => ?_⟩
   rcases List.mem_cons.1 hn with hn | hn
   ·cases hn
   ·exact h2 n hn
theorem DU (l : ze) : tU l = 0 ∨ tU l = 2 := by
 unfold tU
 cases l.any fun b => !(Nat.beq b.2.2 0)
 ·exact .inl rfl
 ·exact .inr rfl
theorem FA {l : ze} (h : tU l = 0) : ∀ b ∈ l, b.2.2 = 0 := by
 intro b hb
 unfold tU at h
 cases hl : l.any fun b => !(Nat.beq b.2.2 0)
 ·have := List.any_eq_false.1 hl b hb
  exact Nat.eq_of_beq_eq_true (by simpa using this)
 ·rw [hl] at h; cases h
theorem zh (v : Env) : ∀ l, nP v l = 0 ∨ nP v l = 2
 | [] => .inl rfl
 | o :: r => by
  simp only [nP]
  split
  ·exact zh v r
  ·exact .inr rfl
theorem zi {v : Env} : ∀ {l : List Nat}, nP v l = 0 → ∀ n ∈ l, ∃ (t : Ty) (et : Nat) (ys : List t.den) (f : Bool), v.obj n = some (.row t et ys f 0)
 | [], _, n, hn => by cases hn
 | o :: r, h, n, hn => by
  simp only [nP] at h
  split at h
  ·rename_i t et ys f ho
   rcases List.mem_cons.1 hn with rfl | hn
   ·exact ⟨t, et, ys, f, ho⟩
   ·exact zi h n hn
  ·cases h
theorem Oa {d i j : Nat} (h : nm d i = nm d j) : i = j := by simp only [nm] at h; omega
theorem JT {v : Env} (hv : ∀ o ov, v.obj o = some ov → e.obj o = some ov) {l : ze} (hb : ∀ b ∈ l, qs e v b) : ∀ n ∈ eO l, ∃ ov, e.obj n = some ov ∧ (ov.st = 0 ∨ ov.st = 2) ∧ (tU l = 0 → ov.st = 0) ∧ ov.flat := by
 intro n hn
 obtain ⟨b, hb1, hb2⟩ := List.mem_flatMap.1 hn
 obtain ⟨st, k1, k2, k3, k4, k5⟩ := hb b hb1
 have hz : tU l = 0 → wC v st b.2.1 = 0 := fun h => by rw [← k4]; exact FA h b hb1
 rcases List.mem_cons.1 hb2 with rfl | hb2
 ·exact ⟨_, k1, k3, fun h => (oW (hz h)).1, trivial⟩
 ·obtain ⟨q1, t, et, ys, f, st', q2, q3⟩ := k5 n hb2
  refine ⟨_, hv _ _ q2, q3, fun h => ?_, trivial⟩
  rcases q3 with q3 | q3
  ·exact q3
  ·subst q3
   exact absurd q2 ((oW (hz h)).2 n q1 t et ys f)
theorem dy.Lp {h : Array Obj} {SA S' : Nat → Prop} {t : Ty} {et : Nat} {bs : List (Option (List t.den))} (M : dy h SA SF t et bs) : dy h S' (wQ SF) t et bs where
 E3 := M.E3
 one := M.one
 HQ k xs hk := (M.HQ k xs hk).imp id fun ⟨g, C, cur, h1, h2, h3, h4, h5, h6⟩ => ⟨g, C, cur, h1, h2, h3, h4, h5, h6.mono fun _ _ hr => bm.lT wQ.to M.sl hr⟩
 inj := M.inj
 sl := M.sl
theorem wU (H : aC c β SF e a w) {S' : Nat → Prop} {bl : Nat → List Nat} (hbl : ∀ n t et bs, e.obj n = some (.mem t et bs) → gG SF t et bs (bl n)) : ∀ {ms : List (Nat × Ty)} {pm : mM ms}, tp ve ms = some pm →
  cO w S' (wQ SF) ms pm ((aJ ms).flatMap bl) ∧ ∀ n ∈ aJ ms, ∃ t et bs, e.obj n = some (.mem t et bs)
 | [], _, h => by cases h; exact ⟨rfl, fun n hn => (by cases hn)⟩
 | p :: ms, pm, h => by
  simp only [tp] at h
  split at h
  ·rename_i bs q h1 h2
   cases h
   obtain ⟨k1, k2⟩ := wU H hbl h2
   obtain ⟨h3, h4⟩ := n8 H h1
   exact ⟨⟨_, _, rfl, h4.Lp, hbl _ _ _ _ h3, k1⟩, fun n hn => (List.mem_cons.1 hn).elim (fun hn => ⟨p.2, p.1, bs, by have hn : n = an p.1 := hn; rw [hn]; exact h3⟩) (k2 n)⟩
  ·cases h
theorem wW {w' : World} {β' : Nat → Value} {S' : Nat → Prop} {SF' SF2 : Loc → Prop} {ms : List (Nat × Ty)} (h12 : ∀ k : Nat, SF' k → SF2 k) (hm : uE ms SF' SF2) (hm' : uE ms SF2 SF') :
  ∀ {l : List (Nat × Ty)} {pm : mM l} {b : List Nat}, cO w' S' SF' l pm b → (∀ p ∈ l, p ∈ ms ∧ mS ms p.2 = true) → (∀ k ∈ b, c.tq k ∨ c.w0.heap.size ≤ k) →
  l5 c β' SF2 w' (Gq (gb l pm)) b ∧ cw (Gq (gb l pm)) = aJ l
 | [], _, _, h, _, _ => by cases h; exact ⟨rfl, rfl⟩
 | p :: l, pm, _, ⟨b1, b2, rfl, M, hb, h⟩, hl, hst => by
  obtain ⟨k1, k2⟩ := wW h12 hm hm' h (fun q hq => hl q (List.mem_cons_of_mem _ hq)) (fun k hk => hst k (List.mem_append_right _ hk))
  obtain ⟨hp, hi⟩ := hl p (List.mem_cons_self ..)
  refine ⟨⟨b1, b2, rfl, fun g => (hb.2 g).trans ⟨fun ⟨k, xs, C, q1, q2⟩ => ⟨k, xs, C, q1, hm p hp _ _ _ q2⟩, fun ⟨k, xs, C, q1, q2⟩ => ⟨k, xs, C, q1, hm' p hp _ _ _ q2⟩⟩, ⟨rfl, ?_⟩, fun g hg => .inr ⟨rfl, hst g (List.mem_append_left _ hg)⟩, k1⟩, ?_⟩
  ·refine ⟨fun k g C q => M.E3 k g C (hm' p hp _ _ _ q), fun k g C g' C' q q' => M.one _ _ _ _ _ (hm' p hp _ _ _ q) (hm' p hp _ _ _ q'), fun k xs hk => ?_, fun k k' xs xs' g C C' q1 q2 q3 q4 => M.inj _ _ _ _ _ _ _ q1 q2 (hm' p hp _ _ _ q3) (hm' p hp _ _ _ q4), M.sl⟩
   refine (M.HQ k xs hk).imp (fun ⟨q1, q2⟩ => ⟨q1, fun g C q => q2 g C (hm' p hp _ _ _ q)⟩) fun ⟨g, C, cur, q1, q2, q3, q4, q5, q6⟩ => ⟨g, C, cur, hm p hp _ _ _ q1, q2, q3, q4, q5, q6.mono fun _ _ hr => ?_⟩
   exact bm.Ic (ms := ms) (fun k hk => .inl (h12 k (hk.elim id fun h => by cases h.1))) (fun p hp k g C hk => .inl (hm p hp k g C (hk.elim id fun h => h.2.elim))) hi hr
  ·simp only [gb, Gq, List.map_cons, cw, aJ]
   exact congrArg _ k2
theorem DV (H : aC c β SF e a w) {bl : Nat → List Nat} : ∀ {l : List Nat}, l.Nodup → (∀ n ∈ l, (bl n).Nodup ∧ ∃ ov, e.obj n = some ov ∧ ∀ g ∈ bl n, bI SF β n ov g) → (l.flatMap bl).Nodup
 | [], _, _ => List.nodup_nil
 | o :: l, hn, ho => by
  obtain ⟨h1, h2⟩ := List.nodup_cons.1 hn
  rw [List.flatMap_cons, List.nodup_append]
  refine ⟨(ho o (List.mem_cons_self ..)).1, DV H h2 fun n hn => ho n (List.mem_cons_of_mem _ hn), fun x hx y hy hxy => ?_⟩
  subst hxy
  obtain ⟨n, hn1, hn2⟩ := List.mem_flatMap.1 hy
  obtain ⟨_, ov, hov, q⟩ := ho o (List.mem_cons_self ..)
  obtain ⟨_, ov', hov', q'⟩ := ho n (List.mem_cons_of_mem _ hn1)
  exact H.inj o n ov ov' x (fun h => h1 (h ▸ hn1)) hov hov' (q x hx) (q' x hn2)
theorem Ig (H : aC c β SF e a w) : ∃ bl : Nat → List Nat, (∀ n ov, e.obj n = some ov → ov.flat → bl n = fJ β n) ∧ ∀ n t et bs, e.obj n = some (.mem t et bs) → gG SF t et bs (bl n) := by
 have : ∀ n, ∃ b, (∀ ov, e.obj n = some ov → ov.flat → b = fJ β n) ∧ ∀ t et bs, e.obj n = some (.mem t et bs) → gG SF t et bs b := fun n => by
  cases hn : e.obj n with
  | none => exact ⟨[], fun _ h => (by cases h), fun _ _ _ h => (by cases h)⟩
  | some ov =>
   cases ov with
   | mem t et bs =>
    obtain ⟨b, hb, _⟩ := uB (H.aY _ _ hn).2
    exact ⟨b, fun ov h hf => (by cases h; cases hf), fun t et bs h => (by cases h; exact hb)⟩
   | row => exact ⟨fJ β n, fun _ _ _ => rfl, fun _ _ _ h => (by cases h)⟩
   | box => exact ⟨fJ β n, fun _ _ _ => rfl, fun _ _ _ h => (by cases h)⟩
   | mp => exact ⟨fJ β n, fun _ _ _ => rfl, fun _ _ _ h => (by cases h)⟩
   | dead => exact ⟨fJ β n, fun _ _ _ => rfl, fun _ _ _ h => (by cases h)⟩
   | al => exact ⟨fJ β n, fun _ _ _ => rfl, fun _ _ _ h => (by cases h)⟩
 exact ⟨fun n => Classical.choose (this n), fun n => (Classical.choose_spec (this n)).1, fun n => (Classical.choose_spec (this n)).2⟩
theorem zj {G : gl} (hD : BY P G cx.D) (hG : y7 G c.w0.heap c.tq) : n9 P cx c := by
 intro o e a w β SF f xs m q ve hsub H hd hc hm hmok hfr hq K Q hK
 have hv : ∀ o' ov, ve.obj o' = some ov → e.obj o' = some ov := hsub.obj
 obtain ⟨bl, hbl1, hbl2⟩ := Ig H
 unfold made at hm
 split at hm
 ·rename_i g caps l hcal hopn
  split at hm
  ·rename_i fd hfd
   simp only at hm
   split at hm
   ·rename_i A pm hA hpm
    split at hm
    ·rename_i fz hfz
     obtain ⟨hbn, hm'⟩ := cy hm
     clear hm
     cases hm'
     simp only at hq hfr
     obtain ⟨hcall, hent⟩ := hD g _ fd hfd
     simp only [Bool.and_eq_true, Bool.not_eq_true', List.any_eq_false, Bool.not_eq_true, Nat.beq_eq] at hbn
     obtain ⟨hnd, hdj, hout, hmi⟩ := hbn
     have hmi : ∀ p ∈ fd.sig.bA, p ∈ fd.sig.bA ∧ mS fd.sig.bA p.2 = true := fun p hp => ⟨hp, List.all_eq_true.1 hmi p hp⟩
     have hnd := tz hnd
     have hbnOf : (A.boxes.flatMap fun b => b.1 :: b.2.1.flatMap Cell.names) ++ (A.iI ++ aJ fd.sig.bA) = eO A.boxes ++ (A.iI ++ aJ fd.sig.bA) := rfl
     rw [hbnOf] at hnd hdj
     have hdj : ∀ n ∈ eO A.boxes ++ (A.iI ++ aJ fd.sig.bA), n ∉ A.eN := fun n hn hn' => hdj n hn n hn' rfl
     unfold callee at hcal
     split at hcal
     ·rename_i f' caps' hop
      cases hcal
      obtain ⟨hf1, hf2⟩ := eH H hop
      let S' := Reads c e β SF A.fresh A.eN
      have hS : sE c e β SF S' A.fresh A.eN := ⟨fun k h => .inr (.inl h), fun h k hk => .inl ⟨h, hk⟩, fun k hk => .inr (.inr hk)⟩
      have hcaps : gk (eg w.heap c.SA SF β) (caps.map fun o => SV.cell (.ptr o 0)) (caps.map β) := by
       have : ∀ (l : List Nat), (∀ o ∈ l, ∃ g, β o = .pointer (some ⟨g, 0, none⟩)) → gk (eg w.heap c.SA SF β) (l.map fun o => SV.cell (.ptr o 0)) (l.map β) := fun l => by
        induction l with
        | nil => intro _; rfl
        | cons o l ih =>
         intro ho
         obtain ⟨g, hg⟩ := ho o (List.mem_cons_self ..)
         exact ⟨_, _, rfl, ⟨g, hg, hg⟩, ih fun n hn => ho n (List.mem_cons_of_mem _ hn)⟩
       exact this caps hf2
      obtain ⟨hargs, hbox, hmov⟩ := zf H (S' := S') hA ((A9 H hopn).append hcaps) hmok hS
      obtain ⟨hmem, hmobj⟩ := wU H (S' := S') hbl2 hpm
      have hknown0 := JT hv hbox
      have hrest : ∀ n ∈ eO A.boxes ++ A.iI, ∃ ov, e.obj n = some ov ∧ (ov.st = 0 ∨ ov.st = 2) ∧ ov.flat := fun n hn => by
       rcases List.mem_append.1 hn with hn | hn
       ·obtain ⟨ov, h1, h2, _, h3⟩ := hknown0 n hn
        exact ⟨ov, h1, h2, h3⟩
       ·obtain ⟨t, et, ys, f, st, h1, h2⟩ := hmov n hn
        exact ⟨_, hv _ _ h1, h2, trivial⟩
      have hknown : ∀ n ∈ eO A.boxes ++ (A.iI ++ aJ fd.sig.bA), ∃ ov, e.obj n = some ov ∧ (ov.st = 0 ∨ ov.st = 2) ∧ (bl n).Nodup ∧ ∀ g, g ∈ bl n ↔ bI SF β n ov g := fun n hn => by
       rw [← List.append_assoc] at hn
       rcases List.mem_append.1 hn with hn | hn
       ·obtain ⟨ov, h1, h2, h3⟩ := hrest n hn
        refine ⟨ov, h1, h2, ?_, fun g => ?_⟩
        ·rw [hbl1 n ov h1 h3]
         unfold fJ
         cases bo (β n) <;> simp
        ·rw [hbl1 n ov h1 h3]
         exact rJ h3 rfl g
       ·obtain ⟨t, et, bs, h1⟩ := hmobj n hn
        exact ⟨_, h1, .inr rfl, (hbl2 n t et bs h1).1, (hbl2 n t et bs h1).2⟩
      have hblk : ∀ l : List Nat, (∀ n ∈ l, n ∈ eO A.boxes ++ A.iI) → l.flatMap (fJ β) = l.flatMap bl := fun l => by
       induction l with
       | nil => intro _; rfl
       | cons n l ih =>
        intro h
        obtain ⟨ov, h1, _, h3⟩ := hrest n (h n (List.mem_cons_self ..))
        rw [List.flatMap_cons, List.flatMap_cons, ih fun m hm => h m (List.mem_cons_of_mem _ hm), hbl1 n ov h1 h3]
      have hall : (eO A.boxes).flatMap (fJ β) ++ (A.iI.flatMap (fJ β) ++ (aJ fd.sig.bA).flatMap bl) = (eO A.boxes ++ (A.iI ++ aJ fd.sig.bA)).flatMap bl := by
       rw [hblk _ fun n hn => List.mem_append_left _ hn, hblk A.iI fun n hn => List.mem_append_right _ hn, ← List.flatMap_append, ← List.flatMap_append]
      have hmvb : A.iI.flatMap (fJ β) ++ (aJ fd.sig.bA).flatMap bl = (A.iI ++ aJ fd.sig.bA).flatMap bl := by
       rw [hblk A.iI fun n hn => List.mem_append_right _ hn, ← List.flatMap_append]
      have hbs : ∀ k, k ∈ (eO A.boxes ++ (A.iI ++ aJ fd.sig.bA)).flatMap bl → ∃ n ∈ eO A.boxes ++ (A.iI ++ aJ fd.sig.bA), ∃ ov, e.obj n = some ov ∧ (ov.st = 0 ∨ ov.st = 2) ∧ bI SF β n ov k := fun k hk => by
       obtain ⟨n, h1, h2⟩ := List.mem_flatMap.1 hk
       obtain ⟨ov, h3, h4, _, h5⟩ := hknown n h1
       exact ⟨n, h1, ov, h3, h4, (h5 k).1 h2⟩
      have hbsL : ∀ k, k ∈ (eO A.boxes).flatMap (fJ β) → k ∈ (eO A.boxes ++ (A.iI ++ aJ fd.sig.bA)).flatMap bl := fun k hk => by rw [← hall]; exact List.mem_append_left _ hk
      have hbsR : ∀ k, k ∈ A.iI.flatMap (fJ β) ++ (aJ fd.sig.bA).flatMap bl → k ∈ (eO A.boxes ++ (A.iI ++ aJ fd.sig.bA)).flatMap bl := fun k hk => by rw [← hall]; exact List.mem_append_right _ hk
      have hloose : ∀ k, k ∈ (eO A.boxes ++ (A.iI ++ aJ fd.sig.bA)).flatMap bl → ¬ c.SA k ∧ ¬ SF k ∧ (c.w0.heap.size ≤ k ∨ c.tq k) := fun k hk => by
       obtain ⟨n, h1, ov, h3, h4, h5⟩ := hbs k hk
       exact H.loose h3 (by omega) h5
      have hin : Lm G w S' (wQ SF) fd.sig (bN.mk fd.sig.bA A.nM pm) (xs.map a.eval ++ caps.map β) ((A.boxes.map (·.1)).map β) ((eO A.boxes).flatMap (fJ β)) (A.iI.flatMap (fJ β) ++ (aJ fd.sig.bA).flatMap bl) := by
       refine ⟨⟨_, _, rfl, by rw [uA]; exact hargs, by rw [BU]; exact hmem⟩, fun k hk => hk, by rw [hall]; exact DV H hnd fun n hn => let ⟨ov, h, _, h2, h3⟩ := hknown n hn; ⟨h2, ov, h, fun g hg => (h3 g).1 hg⟩, fun k hk => ?_, fun k ob hk => ?_⟩
       all_goals rw [hall]
       rotate_left
       ·obtain ⟨g1, g2⟩ := hG k ob hk
        have g3 := (Array.getElem?_eq_some_iff.1 g1).1
        refine ⟨by rw [H.sr k g3 g2]; exact g1, fun h => ?_⟩
        rcases (hloose k h).2.2 with h1 | h1
        ·omega
        ·exact g2 h1
       rcases hk with ⟨_, hk⟩ | hk | ⟨n, hn, ov, hov, hk⟩
       ·exact ⟨Nat.lt_of_lt_of_le (H.sa k hk).1 H.size, fun h => (hloose k h).1 hk⟩
       ·exact ⟨(H.sf k hk).2, fun h => (hloose k h).2.1 hk⟩
       ·refine ⟨(H.own n ov k hov hk).1, fun h => ?_⟩
        obtain ⟨n', h1, ov', h3, _, h5⟩ := hbs k h
        exact H.inj n n' ov ov' k (fun he => hdj n' h1 (he ▸ hn)) hov h3 hk h5
      obtain ⟨dst, op, ty, pos, af, gd⟩ := o
      have hop' : ∃ ats, op = .call ⟨.value f, xs.toArray, ats⟩ := by
       cases op with
       | call cl =>
        obtain ⟨cal, cargs, cats⟩ := cl
        cases cal with
        | value y =>
         simp only [fk, Option.some.injEq, Prod.mk.injEq] at hc
         exact ⟨cats, by rw [← hc.1, ← hc.2]⟩
        | _ => simp [fk] at hc
       | _ => simp [fk] at hc
      obtain ⟨ats, rfl⟩ := hop'
      simp only at hd hfr hK
      unfold Oper.wp
      rw [Ie hent hf1, Oper.upon_enter]
      have hvs : (xs.toArray.map a.eval ++ (caps.map β).toArray) = (xs.map a.eval ++ caps.map β).toArray := by simp
      rw [hvs]
      refine (hcall w S' (wQ SF) _ _ _ _ _ q hq hin).mono fun ed w' ⟨v, SF', us, b1, b2, he, O⟩ => ?_
      subst he
      simp only
      refine hK _ _ ?_
      have hfz : ∃ SF1, (∀ k, SF k → SF1 k) ∧ yG SF1 SF ∧ (lS fd.sig.BD = true → ∀ k, Ia e β SF A.eN k → SF1 k) ∧ aC c β SF1 (e.aF fz) a w ∧
        (∀ n, n ∉ A.eN → (e.aF fz).obj n = e.obj n) ∧ (∀ n, dF (e.aF fz) n → dF e n) := by
       split at hfz
       ·rename_i hl
        obtain ⟨SF1, k1, km, k2, k3, k4, _, k6⟩ := nB hv hfz H (fun n _ t et xs f st h => .inl h)
        refine ⟨SF1, k1, km, fun _ k ⟨n, hn, ov, hov, hk⟩ => ?_, k3, k4, fun n hn => (k6 n hn).elim id fun h => ?_⟩
        ·obtain ⟨⟨ov', hov', hfl⟩, h2⟩ := k2 n hn
         rw [hov] at hov'
         cases hov'
         exact h2 k (hk.flat hfl)
        ·obtain ⟨⟨ov, hov, _⟩, _⟩ := k2 n h
         exact .inr ⟨_, bW hov, .inl rfl⟩
       ·rename_i hl
        cases hfz
        exact ⟨SF, fun _ h => h, fun _ _ _ _ h => h, fun h => absurd h hl, H, fun _ _ => rfl, fun _ h => h⟩
      obtain ⟨SF1, f1, fm, f2, H1, f4, f5⟩ := hfz
      obtain ⟨H2, g2, g3⟩ := wS (l := eO A.boxes ++ (A.iI ++ aJ fd.sig.bA)) H1
      let e2 := (e.aF fz).aF ((eO A.boxes ++ (A.iI ++ aJ fd.sig.bA)).map fun n => W.obj n none)
      let SF2 : Loc → Prop := fun l => match l with
       | .b k => SF1 (.b k) ∨ SF' (.b k)
       | .m et k g C => ((∃ p ∈ fd.sig.bA, p.1 = et) ∧ SF' (.m et k g C)) ∨ ((¬ ∃ p ∈ fd.sig.bA, p.1 = et) ∧ SF1 (.m et k g C))
      have hs12 : ∀ l, SF1 l → SF2 l := fun l hl => by
       cases l with
       | b k => exact .inl hl
       | m et k g C =>
        by_cases hp : ∃ p ∈ fd.sig.bA, p.1 = et
        ·exact .inl ⟨hp, O.mu (.m et k g C) (fm _ _ _ _ hl)⟩
        ·exact .inr ⟨hp, hl⟩
      have hm12 : uE fd.sig.bA SF' SF2 := fun p hp k g C h => .inl ⟨⟨p, hp, rfl⟩, h⟩
      have hm21 : uE fd.sig.bA SF2 SF' := fun p hp k g C h => h.elim (fun h => h.2) fun h => absurd ⟨p, hp, rfl⟩ h.1
      have hbn1 : ∀ n ∈ eO A.boxes ++ (A.iI ++ aJ fd.sig.bA), (e.aF fz).obj n = e.obj n := fun n hn => f4 n (hdj n hn)
      have hfw : ∀ {n : Nat} {ov : OV} {k : Nat}, bI SF β n ov k → bI SF1 β n ov k := fun {n ov k} h => by
       cases ov with
       | mem t et bs => exact let ⟨j, xs, C, q1, q2⟩ := h; ⟨j, xs, C, q1, f1 _ q2⟩
       | _ => exact h
      have hloose1 : ∀ k, k ∈ (eO A.boxes ++ (A.iI ++ aJ fd.sig.bA)).flatMap bl → ¬ c.SA k ∧ ¬ SF1 k ∧ (c.w0.heap.size ≤ k ∨ c.tq k) := fun k hk => by
       obtain ⟨n, h1, ov, h3, h4, h5⟩ := hbs k hk
       exact H1.loose (by rw [hbn1 n h1]; exact h3) (by omega) (hfw h5)
      have hin2 : ∀ n ov, e2.obj n = some ov → (e.aF fz).obj n = some ov ∧ n ∉ eO A.boxes ++ (A.iI ++ aJ fd.sig.bA) := fun n ov h => by
       have h' : (if n ∈ eO A.boxes ++ (A.iI ++ aJ fd.sig.bA) then none else (e.aF fz).obj n) = some ov := by rw [← g2]; exact h
       split at h'
       ·cases h'
       ·rename_i hn; exact ⟨h', hn⟩
      have hnb : ∀ n ov k, e2.obj n = some ov → bI SF1 β n ov k → k < w.heap.size ∧ k ∉ (eO A.boxes ++ (A.iI ++ aJ fd.sig.bA)).flatMap bl := fun n ov k h hk => by
       obtain ⟨h1, h2⟩ := hin2 n ov h
       refine ⟨(H1.own n ov k h1 hk).1, fun hm => ?_⟩
       obtain ⟨n', h3, ov', h5, _, h6⟩ := hbs k hm
       exact H1.inj n n' ov ov' k (fun he => h2 (he ▸ h3)) h1 (by rw [hbn1 n' h3]; exact h5) hk (hfw h6)
      have hsame : ∀ n ov, e2.obj n = some ov → HM SF1 SF2 ov := fun n ov h => by
       cases ov with
       | mem t et bs =>
        obtain ⟨h1, h2⟩ := hin2 n _ h
        obtain ⟨h3, _⟩ := H1.aY _ _ h1
        have hp : ¬ ∃ p ∈ fd.sig.bA, p.1 = et := fun ⟨p, hp, hpe⟩ => h2 (List.mem_append_right _ (List.mem_append_right _ (List.mem_map.2 ⟨p, hp, by rw [h3, hpe]⟩)))
        exact fun k g C hk => hk.elim (fun hk => absurd hk.1 hp) fun hk => hk.2
       | _ => trivial
      have hSF1 : ∀ k : Nat, SF1 k → k < w.heap.size := fun k hk => (H1.sf k hk).2
      have H3 : aC c β SF2 e2 a w' := by
       refine H2.go' (fun k => k ∈ (eO A.boxes ++ (A.iI ++ aJ fd.sig.bA)).flatMap bl) O.os O.tape O.output O.size (fun k hk hn => O.sr k hk (by rw [hall]; exact hn)) (fun k hk => hloose1 k hk) hs12 (fun k hk => ?_) H2.nd H2.nt (fun _ _ => rfl)
        (fun s sv hs => .inl ⟨hs, rfl, fun _ _ => rfl⟩) (fun n ov hn => .inl ⟨hn, rfl, fun _ _ => rfl, fun k hk => ⟨(hnb n ov k hn hk).2, fun _ h => ?_⟩, hsame n ov hn⟩) (fun o o' ov ov' g hne h h' hg hg' => H2.inj o o' ov ov' g hne h h' (hg.back (hsame o ov h) rfl) (hg'.back (hsame o' ov' h') rfl))
       ·rcases hk with hk | hk
        ·exact ⟨(H1.sf k hk).1, Nat.lt_of_lt_of_le (hSF1 k hk) O.size⟩
        ·exact ⟨Nat.le_trans H.size (O.sf k hk).1, (O.sf k hk).2⟩
       ·exact h.resolve_right fun h' => by have := (O.sf k h').1; have := (hnb n ov k hn hk).1; omega
      have hLeak : fu c.SA S' SF2 A.fresh fd.sig.BD := fun hl k hk => by
       rcases hk with hk | hk | hk
       ·exact .inl hk
       ·exact .inr (.inl (f1 k hk))
       ·exact .inr (.inl (f2 hl k hk))
      have h12 : ∀ k : Nat, SF' k → SF2 k := fun k h => .inr h
      obtain ⟨b0, b3, hb1, houts, hmems⟩ := O.outs
      rw [gH, Bool.and_eq_true] at hout
      obtain ⟨a1, a2, γ1, bs1, a3, a4⟩ := tB (c := c) (d := dst.getD 0) (fresh := A.fresh) (st := nP ve (A.iI ++ aJ fd.sig.bA)) h12 hm12 (j := 0) houts (fu.left (m := fd.sig.boxes.flatten) hLeak) hout.1
      have hbk := O.qa
      rw [List.map_map] at hbk
      obtain ⟨c2, γ2, bs2, c3, c4⟩ := wT (c := c) (β := β) (d := dst.getD 0) (st := tU A.boxes) (fresh := A.fresh) h12 hm12 (v := ve) (j := bj fd.sig.outs) hbk (fu.right (l := aK fd.sig.outs) hLeak) hout.2
      have hfresh : bj fd.sig.outs + b6 fd.sig.boxes ≠ 0 → gT e (dst.getD 0) ∧ bj fd.sig.outs + b6 fd.sig.boxes ≤ 64 := fun h => by
       obtain ⟨⟨d', h1, h2⟩, h3⟩ := hfr h
       rw [h1]
       exact ⟨h2, h3⟩
      let β' : Nat → Value := fun n => if bj fd.sig.outs + b6 fd.sig.boxes ≠ 0 ∧ BF (dst.getD 0) n = true then (if n % 64 < bj fd.sig.outs then γ1 (n % 64) else γ2 (n % 64)) else β n
      have hβ : ∀ n, dF e n → β' n = β n := fun n hn => by
       refine if_neg fun ⟨h1, h2⟩ => ?_
       rw [(hfresh h1).1 n hn] at h2
       cases h2
      have hocc2 : ∀ n, dF e2 n → dF e n := fun n hn => by
       have hn : dF (e.aF fz) n ∨ ∃ x ∈ ((eO A.boxes ++ (A.iI ++ aJ fd.sig.bA)).map fun n => W.obj n none), n ∈ dx x := (dI _ _ _).1 hn
       rcases hn with hn | ⟨x, hx, hn⟩
       ·exact f5 n hn
       ·obtain ⟨n', h1, rfl⟩ := List.mem_map.1 hx
        simp only [dx, List.mem_singleton] at hn
        subst hn
        obtain ⟨ov, h2⟩ := hknown n h1
        exact .inr ⟨_, bW h2.1, .inl rfl⟩
      have H4 := H3.rename (fun n hn => hβ n (hocc2 n hn))
      have hA1 : DT (dst.getD 0) β' γ1 0 (0 + bj fd.sig.outs) := fun i _ hi => by
       have h0 : bj fd.sig.outs + b6 fd.sig.boxes ≠ 0 := by omega
       have h64 := (hfresh h0).2
       have e1 : nm (dst.getD 0) i % 64 = i := by simp only [nm]; omega
       refine (if_pos ⟨h0, rE (by omega)⟩).trans ?_
       rw [e1]
       exact if_pos (by omega)
      have hA2 : DT (dst.getD 0) β' γ2 (bj fd.sig.outs) (bj fd.sig.outs + b6 fd.sig.boxes) := fun i hi' hi => by
       have h0 : bj fd.sig.outs + b6 fd.sig.boxes ≠ 0 := by omega
       have h64 := (hfresh h0).2
       have e1 : nm (dst.getD 0) i % 64 = i := by simp only [nm]; omega
       refine (if_pos ⟨h0, rE (by omega)⟩).trans ?_
       rw [e1]
       exact if_neg (by omega)
      obtain ⟨p1, p2⟩ := a4 β' hA1
      have hboxn : ∀ b ∈ A.boxes, b.1 ∈ eO A.boxes := fun b hb => List.mem_flatMap.2 ⟨b, hb, List.mem_cons_self ..⟩
      have p3 := c4 β' hA2 (fun b hb => hβ b.1 (by
        obtain ⟨ov, h, _⟩ := hknown0 b.1 (hboxn b hb)
        exact .inr ⟨_, bW h, .inl rfl⟩))
       (fun k hk => by
        rcases (O.back k hk).2 with h | h
        ·obtain ⟨n, h1, h2⟩ := List.mem_flatMap.1 h
         have h2 := lp.1 h2
         obtain ⟨ov, h3, h4, h5, h7⟩ := hknown0 n h1
         rcases DU A.boxes with hz | hz
         ·refine .inl ⟨hz, ?_⟩
          have h6 := h5 hz
          rcases (H.own n ov k h3 (bI.of h7 h2)).2 with h | h | h
          ·exact h.2.1
          ·omega
          ·omega
         ·exact .inr ⟨hz, (hloose k (hbsL k h)).2.2.symm⟩
        ·rcases DU A.boxes with hz | hz
         ·exact .inl ⟨hz, Nat.le_trans H.size h⟩
         ·exact .inr ⟨hz, .inr (Nat.le_trans H.size h)⟩)
       (fun b hb k hk => by
        obtain ⟨st, k1, k2, k3, _⟩ := hbox b hb
        have hst : JS ve b.1 = st := by unfold JS; rw [k2]
        rw [hst]
        rcases (H.own b.1 _ k k1 hk).2 with h | h | h
        ·exact .inl ⟨h.1, h.2.1⟩
        ·exact absurd h.1 (by simp only [OV.st]; omega)
        ·exact .inr ⟨h.1, h.2.imp id fun h => h.1⟩)
      have hnewst : ∀ k ∈ b1, (nP ve (A.iI ++ aJ fd.sig.bA) = 0 ∧ c.w0.heap.size ≤ k) ∨ (nP ve (A.iI ++ aJ fd.sig.bA) = 2 ∧ (c.tq k ∨ c.w0.heap.size ≤ k)) := fun k hk => by
       rcases (O.new k hk).1 with h | h
       ·rcases zh ve (A.iI ++ aJ fd.sig.bA) with hz | hz
        ·exact .inl ⟨hz, Nat.le_trans H.size h⟩
        ·exact .inr ⟨hz, .inr (Nat.le_trans H.size h)⟩
       ·rcases zh ve (A.iI ++ aJ fd.sig.bA) with hz | hz
        ·rw [hmvb] at h
         obtain ⟨n, h1, h2⟩ := List.mem_flatMap.1 h
         obtain ⟨t, et, ys, fl, hn⟩ := zi hz n h1
         have hn := hv _ _ hn
         refine .inl ⟨hz, ?_⟩
         rw [hbl1 n _ hn trivial] at h2
         rcases (H.own n (.row t et ys fl 0) k hn (lp.1 h2)).2 with h | h | h
         ·exact h.2.1
         ·exact absurd h.1 (by simp [OV.st])
         ·exact absurd h.1 (by simp [OV.st])
        ·exact .inr ⟨hz, (hloose k (hbsR k h)).2.2.symm⟩
      subst hb1
      obtain ⟨r1, r2⟩ := wW (c := c) (β' := β') h12 hm12 hm21 hmems hmi (fun k hk => (hnewst k (List.mem_append_right _ hk)).elim (fun h => .inr h.2) fun h => h.2)
      have hperm : (bs1 ++ (bs2 ++ b3)).Perm ((b0 ++ b3) ++ b2) := by
       refine (List.Perm.append a3 (List.Perm.append_right _ c3)).trans ?_
       rw [List.append_assoc]
       exact List.Perm.append_left _ List.perm_append_comm
      have hadd := (p2 fun k hk => hnewst k (List.mem_append_left _ hk)).append (p3.append r1)
      have hwo : ∀ (l m : List W), cw (l ++ m) = cw l ++ cw m := fun l => by
       induction l with
       | nil => intro m; rfl
       | cons y l ih => intro m; cases y <;> simp [cw, ih]
      have hnames : ∀ n, (∃ i, i < bj fd.sig.outs + b6 fd.sig.boxes ∧ n = nm (dst.getD 0) i) → ¬ dF e n := fun n ⟨i, hi, he⟩ ho => by
       obtain ⟨h1, h2⟩ := hfresh (by omega)
       have h3 := h1 n ho
       rw [he, rE (by omega)] at h3
       cases h3
      have hbx1 : ∀ n ∈ A.boxes.map (·.1), n ∈ eO A.boxes := fun n hn => by
       obtain ⟨b, hb, rfl⟩ := List.mem_map.1 hn
       exact hboxn b hb
      have hbxnd : ∀ (l : ze), (eO l).Nodup → (l.map (·.1)).Nodup := fun l => by
       induction l with
       | nil => intro _; exact List.nodup_nil
       | cons b l ih =>
        intro h
        have h : (b.1 :: b.2.1.flatMap aq ++ eO l).Nodup := h
        obtain ⟨h1, h2, h3⟩ := List.nodup_append.1 h
        refine List.nodup_cons.2 ⟨fun hm => ?_, ih h2⟩
        obtain ⟨b', hb', he⟩ := List.mem_map.1 hm
        exact h3 b.1 (List.mem_cons_self ..) b.1 (List.mem_flatMap.2 ⟨b', hb', by rw [he]; exact List.mem_cons_self ..⟩) rfl
      have hc2 : (bj fd.sig.outs) = 0 + 1 * bj fd.sig.outs := by omega
      have hnodup0 : ((List.range' 0 (bj fd.sig.outs)).map (nm (dst.getD 0)) ++ ((List.range' (bj fd.sig.outs) (b6 fd.sig.boxes)).map (nm (dst.getD 0)) ++ A.boxes.map (·.1))).Nodup := by
       rw [← List.append_assoc, ← List.map_append]
       have hr : List.range' 0 (bj fd.sig.outs) ++ List.range' (bj fd.sig.outs) (b6 fd.sig.boxes) = List.range' 0 (bj fd.sig.outs + b6 fd.sig.boxes) := by
        rw [← List.range'_append_1, Nat.zero_add]
       rw [hr]
       refine List.nodup_append.2 ⟨?_, hbxnd _ (List.nodup_append.1 hnd).1, fun x hx y hy hxy => ?_⟩
       ·exact List.pairwise_map.2 ((List.nodup_range' ..).imp fun h h' => h (Oa h'))
       ·subst hxy
        obtain ⟨i, hi, he⟩ := List.mem_map.1 hx
        obtain ⟨ov, h2, _⟩ := hknown0 x (hbx1 x hy)
        refine hnames x ⟨i, ?_, he.symm⟩ (.inr ⟨_, bW h2, .inl rfl⟩)
        have := List.mem_range'_1.1 hi
        omega
      have hnodup : ((List.range' 0 (bj fd.sig.outs)).map (nm (dst.getD 0)) ++ (((List.range' (bj fd.sig.outs) (b6 fd.sig.boxes)).map (nm (dst.getD 0)) ++ A.boxes.map (·.1)) ++ aJ fd.sig.bA)).Nodup := by
       rw [← List.append_assoc]
       refine List.nodup_append.2 ⟨hnodup0, (List.nodup_append.1 (List.nodup_append.1 hnd).2.1).2.1, fun x hx y hy hxy => ?_⟩
       subst hxy
       have hoc : dF e x := by
        obtain ⟨t, et, bs, h1⟩ := hmobj x hy
        exact .inr ⟨_, bW h1, .inl rfl⟩
       rcases List.mem_append.1 hx with hx | hx
       ·obtain ⟨i, hi, he⟩ := List.mem_map.1 hx
        refine hnames x ⟨i, ?_, he.symm⟩ hoc
        have := List.mem_range'_1.1 hi
        omega
       ·rcases List.mem_append.1 hx with hx | hx
        ·obtain ⟨i, hi, he⟩ := List.mem_map.1 hx
         refine hnames x ⟨i, ?_, he.symm⟩ hoc
         have := List.mem_range'_1.1 hi
         omega
        ·exact (List.nodup_append.1 hnd).2.2 x (hbx1 x hx) x (List.mem_append_right _ hy) rfl
      have hwperm := (List.Perm.append_left ((List.range' 0 (bj fd.sig.outs)).map (nm (dst.getD 0))) (List.Perm.append_right (aJ fd.sig.bA) c2))
      have hmem2 : ∀ n, n ∈ (List.range' 0 (bj fd.sig.outs)).map (nm (dst.getD 0)) ++ (((List.range' (bj fd.sig.outs) (b6 fd.sig.boxes)).map (nm (dst.getD 0)) ++ A.boxes.map (·.1)) ++ aJ fd.sig.bA) → e2.obj n = none := fun n hn => by
       cases hobj : e2.obj n with
       | none => rfl
       | some ov =>
        exfalso
        obtain ⟨h1, h2⟩ := hin2 n ov hobj
        have hoc : dF e n := f5 n (.inr ⟨_, bW h1, .inl rfl⟩)
        rcases List.mem_append.1 hn with hn | hn
        ·obtain ⟨i, hi, he⟩ := List.mem_map.1 hn
         refine hnames n ⟨i, ?_, he.symm⟩ hoc
         have := List.mem_range'_1.1 hi
         omega
        ·rcases List.mem_append.1 hn with hn | hn
         ·rcases List.mem_append.1 hn with hn | hn
          ·obtain ⟨i, hi, he⟩ := List.mem_map.1 hn
           refine hnames n ⟨i, ?_, he.symm⟩ hoc
           have := List.mem_range'_1.1 hi
           omega
          ·exact h2 (List.mem_append_left _ (hbx1 n hn))
         ·exact h2 (List.mem_append_right _ (List.mem_append_right _ hn))
      have H5 := zg H4 hadd (by rw [hwo, hwo, a2, r2]; exact hwperm.nodup_iff.2 hnodup) (fun n hn => by
        rw [hwo, hwo, a2, r2] at hn
        exact hmem2 n (hwperm.mem_iff.1 hn)) (hperm.nodup_iff.2 O.nodup) (fun k hk => by
        have hk := hperm.mem_iff.1 hk
        have hl := O.loose k hk
        have hcases : k < w'.heap.size ∧ (w.heap.size ≤ k ∨ k ∈ (eO A.boxes ++ (A.iI ++ aJ fd.sig.bA)).flatMap bl) := by
         rcases List.mem_append.1 hk with hk | hk
         ·exact ⟨(O.new k hk).2, (O.new k hk).1.imp id (hbsR k)⟩
         ·exact ⟨(O.back k hk).1, (O.back k hk).2.symm.imp id (hbsL k)⟩
        refine ⟨hcases.1, fun h => ?_, fun n ov hn hk' => ?_⟩
        ·rcases h with h | h
         ·rcases hcases.2 with h' | h'
          ·have := hSF1 k h; omega
          ·exact (hloose1 k h').2.1 h
         ·exact hl h
        ·obtain ⟨h1, h2⟩ := hin2 n ov hn
         have hoc : dF e n := f5 n (.inr ⟨_, bW h1, .inl rfl⟩)
         obtain ⟨h3, h4⟩ := hnb n ov k hn (hk'.back (hsame n ov hn) (hβ n hoc))
         rcases hcases.2 with h' | h'
         ·omega
         ·exact h4 h')
      have hres : eg w'.heap c.SA SF2 β' (Jq (outs (dst.getD 0) A.fresh (nP ve (A.iI ++ aJ fd.sig.bA)) 0 fd.sig.outs (cR.split (aK fd.sig.outs) fd.sig.boxes.flatten (bN.out _ q)).1).1) v := by
       rw [O.val]
       revert p1
       generalize (outs (dst.getD 0) A.fresh (nP ve (A.iI ++ aJ fd.sig.bA)) 0 fd.sig.outs (cR.split (aK fd.sig.outs) fd.sig.boxes.flatten (bN.out _ q)).1).1 = L
       intro p1
       have hlen := p1.length
       unfold Jq DO
       split
       ·rename_i b cs
        obtain ⟨u, r, rfl, ⟨vs, h1, h2⟩, hr⟩ := p1
        simp only [gk] at hr
        subst hr
        simp only [List.length_cons, List.length_nil, if_true, List.headD_cons]
        split
        ·rename_i r hr
         have := tu h1 hr
         unfold valOf at this
         rw [h2]; exact this
        ·trivial
       ·rename_i hne
        rw [if_neg]
        ·exact ⟨us, rfl, p1⟩
        ·rw [hlen]
         match L, hne with
         | [], _ => simp
         | [(b, cs)], hne => exact absurd rfl (hne b cs)
         | _ :: _ :: _, _ => simp
      have hputs : ∀ (ws : List W) (dw : List W), e.aF (fz ++ ((((A.boxes.flatMap fun b => b.1 :: b.2.1.flatMap Cell.names) ++ (A.iI ++ aJ fd.sig.bA)).map fun n => W.obj n none) ++ (ws ++ dw))) = (e2.aF ws).aF dw := fun ws dw => by
       rw [Env.cA, Env.cA, Env.cA]
       rfl
      refine ⟨β', SF2, ?_⟩
      rw [← List.append_assoc (qa _ _ _ _ _ _ _ _), ← List.append_assoc (outs _ _ _ _ _ _).2.1, hputs]
      have haf : (outs (dst.getD 0) A.fresh (nP ve (A.iI ++ aJ fd.sig.bA)) 0 fd.sig.outs (cR.split (aK fd.sig.outs) fd.sig.boxes.flatten (bN.out _ q)).1).2.2 = bj fd.sig.outs := by rw [a1, Nat.zero_add]
      rw [haf]
      cases dst with
      | none => exact H5
      | some d' => exact H5.slot d' (hd d' rfl) (some _) v fun y hy => by cases hy; exact hres
     ·cases hcal
    ·cases hm
   ·cases hm
  ·cases hm
 ·cases hm
def cT (P : Program) (F : AT) : Prop := ∀ f fn, look F f = some fn → P.funcs[f]? = some fn ∧ (fn.name == "runtime.NumGoroutine") = false
end
end Go.Px
namespace Go.Px
open Go
theorem bm.bare {h : Array Obj} {S S' : Loc → Prop} (hS : ∀ k : Nat, S k → S' k) {t : Ty} {cs : List Value} {x : t.den} (hi : mS [] t = true) (H : bm h S t cs x) : bm h S' t cs x := bm.Ic (ms := []) hS (fun p hp => by cases hp) hi H
section
variable {w : World} {SA : Nat → Prop} {SF SF' : Loc → Prop}
theorem S2.bare (hS : ∀ k : Nat, SF k → SF' k) {f : Bool} : ∀ k : Nat, S2 SA SF f k → S2 SA SF' f k := fun k h => h.imp (hS k) id
theorem BZ {a b : List eZ} : ec [] (a ++ b) = (ec [] a && ec [] b) := gH
theorem cH.bare (hS : ∀ k : Nat, SF k → SF' k) : ∀ {l : List eZ} {p : cR l} {vs : List Value} {bs : List Nat}, ec [] l = true → cH w SA SF l p vs bs → cH w SA SF' l p vs bs
 | [], _, _, _, _, h => h
 | .val t f :: l, p, _, bs, hi, ⟨v, r, h1, h2, h3⟩ => by
  simp only [ec, Bool.and_eq_true] at hi
  exact ⟨v, r, h1, h2.bare (S2.bare hS) hi.1, cH.bare hS hi.2 h3⟩
 | .row t et f :: l, p, _, _, hi, ⟨v, r, cells, b, h1, h2, h3, h4, h5⟩ => by
  simp only [ec, Bool.and_eq_true] at hi
  exact ⟨v, r, cells, b, h1, h2, h3, h4.mono fun _ _ h => h.bare (S2.bare hS) hi.1, cH.bare hS hi.2 h5⟩
theorem kF.bare (hS : ∀ k : Nat, SF k → SF' k) {cs : List eZ} {p : cR cs} {v : Value} {bs : List Nat} (hi : ec [] cs = true) : kF w SA SF cs p v bs → kF w SA SF' cs p v bs
 | ⟨g, arr, et, b, h1, h2, h3, h4⟩ => ⟨g, arr, et, b, h1, h2, h3.bare hS hi, h4⟩
theorem fg.bare (hS : ∀ k : Nat, SF k → SF' k) : ∀ {l : List (List eZ)} {p : cR l.flatten} {vs : List Value} {bs : List Nat}, ec [] l.flatten = true → fg w SA SF l p vs bs → fg w SA SF' l p vs bs
 | [], _, _, _, _, h => h
 | cs :: l, p, _, _, hi, ⟨v, r, b1, b2, h1, h2, h3, h4⟩ => by
  simp only [List.flatten_cons, BZ, Bool.and_eq_true] at hi
  exact ⟨v, r, b1, b2, h1, h2, h3.bare hS hi.1, fg.bare hS hi.2 h4⟩
theorem y6.bare (hS : ∀ k : Nat, SF k → SF' k) : ∀ {p : kC} {q : cR p.flat} {v : Value} {ps : List Value} {bs ms : List Nat}, ec [] p.flat = true → y6 w SA SF p q v ps bs ms → y6 w SA SF' p q v ps bs ms
 | .cell c, _, _, _, _, _, hi, ⟨h1, h2, h3⟩ => ⟨h1, h2, cH.bare hS hi h3⟩
 | .agg cs, _, _, _, _, _, hi, ⟨h1, h2, us, h3, h4⟩ => ⟨h1, h2, us, h3, cH.bare hS hi h4⟩
 | .box cs, _, _, _, _, _, hi, ⟨h1, h2, h3⟩ => ⟨h1, h2, kF.bare hS hi h3⟩
 | .fn f l, _, _, _, _, _, hi, ⟨h1, h2, h3⟩ => ⟨h1, h2, fg.bare hS hi h3⟩
 | .ad _ _ _, _, _, _, _, _, hi, _ => by cases hi
theorem gU.bare (hS : ∀ k : Nat, SF k → SF' k) : ∀ {l : List kC} {q : cR (l.flatMap kC.flat)} {vs ps : List Value} {bs ms : List Nat}, ec [] (l.flatMap kC.flat) = true → gU w SA SF l q vs ps bs ms → gU w SA SF' l q vs ps bs ms
 | [], _, _, _, _, _, _, h => h
 | p :: l, _, _, _, _, _, hi, ⟨v, r, p1, p2, b1, b2, m1, m2, h1, h2, h3, h4, h5, h6⟩ => by
  simp only [List.flatMap_cons, BZ, Bool.and_eq_true] at hi
  exact ⟨v, r, p1, p2, b1, b2, m1, m2, h1, h2, h3, h4, h5.bare hS hi.1, gU.bare hS hi.2 h6⟩
theorem iK.bare (hS : ∀ k : Nat, SF k → SF' k) : ∀ {l : List (Nat × List eZ)} {p : cR (aK l)} {vs : List Value} {bs : List Nat}, ec [] (aK l) = true → iK w SA SF l p vs bs → iK w SA SF' l p vs bs
 | [], _, _, _, _, h => h
 | bc :: l, p, _, _, hi, ⟨v, r, b1, b2, h1, h2, h3, h4⟩ => by
  simp only [aK, BZ, Bool.and_eq_true] at hi
  exact ⟨v, r, b1, b2, h1, h2, h3.imp (fun ⟨a, b⟩ => ⟨a, b.bare hS hi.1⟩) (fun ⟨a, us, b, c⟩ => ⟨a, us, b.bare hS hi.1, c⟩), iK.bare hS hi.2 h4⟩
theorem vU : ∀ {ms : List (Nat × Ty)}, (ms.all fun p => !(cE p.2)) = true → cO w SA y5 ms (iG ms) []
 | [], _ => rfl
 | p :: ms, h => by
  simp only [List.all_cons, Bool.and_eq_true, Bool.not_eq_true'] at h
  refine ⟨[], [], rfl, ⟨fun _ _ _ h => h.elim, fun _ _ _ _ _ h => h.elim, fun k xs h => by simp [iG] at h, fun k k' xs xs' g C C' h => by simp [iG] at h, h.1⟩, ⟨List.nodup_nil, fun g => ⟨fun h => (by cases h), fun ⟨k, xs, C, h, _⟩ => by simp [iG] at h⟩⟩, vU h.2⟩
end
theorem bN.FB {A : Type} : ∀ (ms : List (Nat × Ty)) (a : A) (q : mM ms), bN.out ms (bN.mk ms a q) = a
 | [], _, _ => rfl
 | _ :: r, a, q => bN.FB r a q.2
theorem bN.JU {A : Type} : ∀ (ms : List (Nat × Ty)) (a : A) (q : mM ms), bN.ms ms (bN.mk ms a q) = q
 | [], _, _ => rfl
 | _ :: r, a, q => by
  show (q.1, bN.ms r (bN.mk r a q.2)) = q
  rw [bN.JU r a q.2]
  rfl
theorem FC {P : Program} {T : Types} (HT : mL P T) {D : Den} {n : Nat} {G : gl} (hcall : ∀ (cx : Cx) (c : Ctx), cx.T = T → cx.D = D → y7 G c.w0.heap c.tq → n9 P cx c) (hm : P.follows .mixedOrders = true) {f : FuncId} {fn : Func} (hf : P.funcs[f]? = some fn) {ins : List kC} {os : List (Nat × List eZ)} {ms : List (Nat × Ty)} :
  bU P G f ⟨⟨ins, os, []⟩, Gw T D n fn ⟨ins, os, []⟩ ms⟩ := by
 intro w SA N0 vs ps bs mv p q hq hin
 change Gw T D n fn ⟨ins, os, []⟩ ms p = some q at hq
 simp only [Gw, Bool.cond_eq_ite] at hq
 split at hq
 ·rename_i hh
  simp only [Jx, Bool.and_eq_true] at hh
  obtain ⟨h1, h2, h3⟩ := hh
  obtain ⟨m1, m2, rfl, hargs, hme⟩ := hin.args
  change m2 = [] at hme
  subst hme
  have h4 : ec [] (aK os) = true ∧ ec [] (ins.flatMap kC.boxes).flatten = true := by
   rw [← Bool.and_eq_true, ← BZ]
   exact h2
  have hin2 : Lm G w SA y5 ⟨ins, os, ms⟩ (bN.mk ms p (iG ms)) vs ps bs (m1 ++ []) := by
   refine ⟨⟨m1, [], rfl, ?_, ?_⟩, fun _ h => h, hin.nodup, hin.sa, hin.Lq⟩
   ·have h5 : gU w SA y5 ins (show cR (ins.flatMap kC.flat) from p) vs ps bs m1 := gU.bare (fun k h => (hin.n0 k h).elim) h1 hargs
    exact Eq.mp (congrArg (fun z => gU w SA y5 ins z vs ps bs m1) (bN.FB ms (show cR (ins.flatMap kC.flat) from p) (iG ms)).symm) h5
   ·exact Eq.mp (congrArg (fun z => cO w SA y5 ms z []) (bN.JU ms (show cR (ins.flatMap kC.flat) from p) (iG ms)).symm) (vU h3)
  refine (wP HT hcall hm hf hq hin2).mono ?_
  rintro e w' ⟨q', rfl, v, SF, us, b1, b2, he, O⟩
  obtain ⟨b0, b3, rfl, ho, _⟩ := O.outs
  have hS : ∀ k : Nat, SF k → (fun l => SF l ∨ N0 l) (Loc.b k) := fun k h => .inl h
  have hnd : (b0 ++ b2).Nodup := by
   refine List.Nodup.sublist ?_ O.nodup
   exact List.Sublist.append_right (List.sublist_append_left _ _) _
  refine ⟨v, fun l => SF l ∨ N0 l, us, b0, b2, he, O.os, O.tape, O.output, O.size, O.sr, fun k h => h.elim (O.sf k) (fun h => (hin.n0 k h).elim), fun l h => .inr h, ⟨b0, [], by simp, ?_, rfl⟩, O.val, ?_, fun k hk => O.new k (List.mem_append_left _ hk), fun k hk h => ?_, O.back, hnd⟩
  ·exact iK.bare hS h4.1 ho
  ·exact fg.bare hS h4.2 O.qa
  ·rcases h with h | h
   ·refine O.loose k ?_ h
    rcases List.mem_append.1 hk with hk | hk
    ·exact List.mem_append_left _ (List.mem_append_left _ hk)
    ·exact List.mem_append_right _ hk
   ·exact hin.n0 k h
 ·cases hq
abbrev ax := (f : Nat) → (key : List Nat) → (s : bh) → s.In → Option s.Out
def DW (S : Lf) (R : ax) : Den := fun f key => match look S f with
 | some l => match Jy l key with
  | some s => some ⟨s, R f key s⟩
  | none => none
 | none => none
def JV (m : Nat) (D : Den) : Den := fun g k => match D g (m :: k) with
 | some x => some x
 | none => D g k
structure Prog where
 T : Types
 F : AT
 S : Lf
 B : ax
 md : Nat → Nat × Types := fun _ => (0, T)
 L : List (Nat × Option (List (Nat × Ty))) := []
def Qa : List (Nat × Ty) → Nat
 | [] => 0 | p :: _ => p.1
def Prog.own (C : Prog) (f : Nat) (s : bh) : Option (List (Nat × Ty)) := cond s.bA.isEmpty (look C.L f) none
noncomputable def Prog.ty (C : Prog) (ms : List (Nat × Ty)) : Types := cond ms.isEmpty C.T (C.md (Qa ms)).2
noncomputable def Prog.dn (C : Prog) (R : ax) (ms : List (Nat × Ty)) : Den := cond ms.isEmpty (DW C.S R) (JV (C.md (Qa ms)).1 (DW C.S R))
noncomputable def Prog.body (C : Prog) (R : ax) (n : Nat) (fn : Func) (s : bh) : s.In → Option s.Out := Px.body (C.ty s.bA) (C.dn R s.bA) n fn s
noncomputable def Prog.hid (C : Prog) (R : ax) (n : Nat) (fn : Func) (s : bh) (ms : List (Nat × Ty)) : s.In → Option s.Out := Px.Gw (C.ty ms) (C.dn R ms) n fn s ms
noncomputable def Prog.step (C : Prog) (R : ax) (n : Nat) : ax := fun f key s p => match look C.F f with
 | some fn => match C.own f s with
  | none => C.body R n fn s p
  | some ms => C.hid R n fn s ms p
 | none => C.B f key s p
noncomputable def Prog.run (C : Prog) : Nat → ax
 | 0 => fun _ _ _ _ => none
 | n + 1 => C.step (C.run n) n
structure Prog.OK (P : Program) (G : gl) (C : Prog) : Prop where
 T : mL P C.T
 T2 : ∀ k, mL P (C.md k).2
 mixed : P.follows .mixedOrders = true
 F : ∀ f fn, look C.F f = some fn → P.funcs[f]? = some fn ∧ fn.body.isNone = false ∧ (fn.name == "runtime.NumGoroutine") = false
 B : ∀ f key s, look C.F f = none → look C.S f ≠ none → bU P G f ⟨s, C.B f key s⟩ ∧ Enters P f
theorem Prog.sound {P : Program} {G : gl} {C : Prog} (H : Prog.OK P G C) : ∀ n f key s, look C.S f ≠ none → bU P G f ⟨s, C.run n f key s⟩ ∧ (look C.F f = none ∨ Enters P f)
 | 0, f, key, s, hS => by
  refine ⟨fun w SA N0 vs ps bs ms p q h => (by cases h), ?_⟩
  cases hf : look C.F f with
  | none => exact .inl rfl
  | some fn => exact .inr ⟨fn, H.F f fn hf⟩
 | n + 1, f, key, s, hS => by
  have ih : BY P G (DW C.S (C.run n)) := by
   intro g key' fd h
   unfold DW at h
   split at h
   ·rename_i l hl
    split at h
    ·rename_i s' _
     cases h
     have hS' : look C.S g ≠ none := by rw [hl]; simp
     obtain ⟨h1, h2⟩ := Prog.sound H n g key' s' hS'
     refine ⟨h1, ?_⟩
     cases hf : look C.F g with
     | none => exact (H.B g key' s' hf hS').2
     | some fn => exact ⟨fn, H.F g fn hf⟩
    ·cases h
   ·cases h
  cases hf : look C.F f with
  | none =>
   refine ⟨?_, .inl rfl⟩
   have e1 : C.run (n + 1) f key s = C.B f key s := by
    funext p
    show (match look C.F f with | some fn => (match C.own f s with | none => C.body (C.run n) n fn s p | some ms => C.hid (C.run n) n fn s ms p) | none => C.B f key s p) = _
    rw [hf]
   rw [e1]
   exact (H.B f key s hf hS).1
  | some fn =>
   refine ⟨?_, .inr ⟨fn, H.F f fn hf⟩⟩
   have ih2 : ∀ m, BY P G (JV m (DW C.S (C.run n))) := by
    intro m g key' fd h
    unfold JV at h
    split at h
    ·rename_i hx; cases h; exact ih _ _ _ hx
    ·exact ih _ _ _ h
   have hty : ∀ ms, mL P (C.ty ms) := fun ms => by
    unfold Prog.ty
    cases ms.isEmpty with
    | true => exact H.T
    | false => exact H.T2 _
   have hdn : ∀ ms, BY P G (C.dn (C.run n) ms) := fun ms => by
    unfold Prog.dn
    cases ms.isEmpty with
    | true => exact ih
    | false => exact ih2 _
   cases ho : C.own f s with
   | none =>
    have e1 : C.run (n + 1) f key s = C.body (C.run n) n fn s := by
     funext p
     show (match look C.F f with | some fn => (match C.own f s with | none => C.body (C.run n) n fn s p | some ms => C.hid (C.run n) n fn s ms p) | none => C.B f key s p) = _
     rw [hf]
     show (match C.own f s with | none => C.body (C.run n) n fn s p | some ms => C.hid (C.run n) n fn s ms p) = _
     rw [ho]
    rw [e1]
    unfold Prog.body
    exact Fy (hty _) (fun cx c hT hD hG => zj (by rw [hD]; exact hdn _) hG) H.mixed (H.F f fn hf).1
   | some ms =>
    have e1 : C.run (n + 1) f key s = C.hid (C.run n) n fn s ms := by
     funext p
     show (match look C.F f with | some fn => (match C.own f s with | none => C.body (C.run n) n fn s p | some ms => C.hid (C.run n) n fn s ms p) | none => C.B f key s p) = _
     rw [hf]
     show (match C.own f s with | none => C.body (C.run n) n fn s p | some ms => C.hid (C.run n) n fn s ms p) = _
     rw [ho]
    rw [e1]
    obtain ⟨ins, os, bA⟩ := s
    cases bA with
    | cons _ _ => cases ho
    | nil =>
     have h := FC (hty ms) (G := G) (D := C.dn (C.run n) ms) (n := n) (fun cx c hT hD hG => zj (by rw [hD]; exact hdn _) hG) H.mixed (H.F f fn hf).1 (ins := ins) (os := os) (ms := ms)
     exact h
end Go.Px
namespace Go.Px
open Go
def Qb (P : Program) (e : TypeId) : Ty → Prop
 | .int _ => ∃ k, P.underlying e = some (.int k)
 | .bool => P.underlying e = some .bool
 | .str => P.underlying e = some .string
 | _ => False
def tC (P : Program) : Nat → List Field → List Ty → Prop
 | _, [], [] => True
 | off, f :: fs, t :: ts => f.offset = off ∧ f.name ≠ "_" ∧ Qb P f.type t ∧ tC P (off + 1) fs ts
 | _, _, _ => False
theorem Oc {P : Program} {e : TypeId} {t : Ty} (h : Qb P e t) {h1 h2 : Array Obj} {SA : Nat → Prop} {SF : Loc → Prop} {SA' : Nat → Prop} {SF' : Loc → Prop} {β β' : Nat → Value} {c d : Cell} {v u : Value} {r : Bool} {w : World} {m : Nat}
  (hf : Bu c t = true) (he : p5 c d = some r) (hv : aG h1 SA SF β c v) (hu : aG h2 SA' SF' β' d u) :
  (Op.equalIn (m + 1) e v u).run P w = .ok r w ∧ (∀ xs : Array Value, ∀ off, xs[off]? = some v → (part e xs off).run P w = .ok v w) ∧ (∀ xs : Array Value, ∀ off, xs[off]? = some u → (part e xs off).run P w = .ok u w) := by
 have hp : ∀ (d : TypeDesc), P.underlying e = some d → (match d with | .struct _ | .array _ _ => False | _ => True) → ∀ (x : Value) (xs : Array Value) (off : Nat), xs[off]? = some x → (part e xs off).run P w = .ok x w := by
  intro d hd hne x xs off hx
  cases d <;> first | (simp only at hne; done) | simp [part, isAgg, run_underlying hd, hx]
 unfold Bu at hf
 split at hf
 ·rename_i k x fr k'
  obtain ⟨k'', hk⟩ := h
  cases d with
  | val t2 y fr2 =>
   cases t2 <;> simp only [p5] at he <;> try (cases he; done)
   rename_i k2
   split at he
   ·rename_i hkk
    have := Ty.dH hkk
    subst this
    cases he
    simp only [aG, bm, List.cons.injEq, and_true] at hv hu
    subst hv; subst hu
    refine ⟨?_, fun xs off hx => hp _ hk trivial _ xs off hx, fun xs off hx => hp _ hk trivial _ xs off hx⟩
    exact run_equalIn_int w m e k k'' x y hk
   ·cases he
  | _ => simp only [p5] at he; cases he
 ·rename_i x fr
  cases d with
  | val t2 y fr2 =>
   cases t2 <;> simp only [p5] at he <;> try (cases he; done)
   cases he
   simp only [aG, bm, List.cons.injEq, and_true] at hv hu
   subst hv; subst hu
   exact ⟨run_equalIn_bool w m e x y h, fun xs off hx => hp _ h trivial _ xs off hx, fun xs off hx => hp _ h trivial _ xs off hx⟩
  | _ => simp only [p5] at he; cases he
 ·rename_i x fr
  cases d with
  | val t2 y fr2 =>
   cases t2 <;> simp only [p5] at he <;> try (cases he; done)
   cases he
   simp only [aG, bm, List.cons.injEq, and_true] at hv hu
   subst hv; subst hu
   exact ⟨run_equalIn_string w m e x y h, fun xs off hx => hp _ h trivial _ xs off hx, fun xs off hx => hp _ h trivial _ xs off hx⟩
  | _ => simp only [p5] at he; cases he
 ·cases hf
theorem sF {P : Program} {h1 h2 : Array Obj} {SA : Nat → Prop} {SF : Loc → Prop} {SA' : Nat → Prop} {SF' : Loc → Prop} {β β' : Nat → Value} {w : World} {m : Nat} {xs ys : Array Value} :
  ∀ (fs : List Field) (ts : List Ty) (off : Nat) (cs ds : List Cell) (vs us : List Value) (r : Bool), tC P off fs ts → iC cs ts = true → mQ cs ds = some r → ao h1 SA SF β cs vs → ao h2 SA' SF' β' ds us →
   (∀ i v, vs[i]? = some v → xs[off + i]? = some v) → (∀ i v, us[i]? = some v → ys[off + i]? = some v) → (Op.eqFields (m + 1) xs ys fs).run P w = .ok r w
 | [], [], off, cs, ds, vs, us, r, _, hf, he, _, _, _, _ => by
  cases cs with
  | nil =>
   cases ds with
   | nil => simp only [mQ] at he; cases he; simp [Op.eqFields]
   | cons _ _ => simp only [mQ] at he; cases he
  | cons _ _ => simp only [iC] at hf; cases hf
 | [], _ :: _, _, _, _, _, _, _, h, _, _, _, _, _, _ => h.elim
 | _ :: _, [], _, _, _, _, _, _, h, _, _, _, _, _, _ => h.elim
 | f :: fs, t :: ts, off, cs, ds, vs, us, r, h, hf, he, hv, hu, hx, hy => by
  obtain ⟨a1, a2, a3, a4⟩ := h
  cases cs with
  | nil => simp only [iC] at hf; cases hf
  | cons c cs =>
   cases ds with
   | nil => simp only [mQ] at he; cases he
   | cons d ds =>
    simp only [iC, Bool.and_eq_true] at hf
    simp only [mQ] at he
    split at he
    ·rename_i b b' hb hb'
     cases he
     obtain ⟨v, vs', rfl, hv1, hv2⟩ := hv
     obtain ⟨u, us', rfl, hu1, hu2⟩ := hu
     obtain ⟨q1, q2, q3⟩ := Oc (w := w) (m := m) a3 hf.1 hb hv1 hu1
     have p1 := q2 xs off (by have := hx 0 _ rfl; simpa using this)
     have p2 := q3 ys off (by have := hy 0 _ rfl; simpa using this)
     have ih := sF (P := P) (w := w) (m := m) (xs := xs) (ys := ys) fs ts (off + 1) cs ds _ _ b' a4 hf.2 hb' hv2 hu2
      (fun i v hi => by have := hx (i + 1) v (by simpa using hi); rwa [show off + (i + 1) = off + 1 + i by omega] at this)
      (fun i v hi => by have := hy (i + 1) v (by simpa using hi); rwa [show off + (i + 1) = off + 1 + i by omega] at this)
     subst a1
     simp only [Op.eqFields, a2, ne_eq, not_false_eq_true, if_true, Sem.run_bind, p1, p2, q1, Result.andThen_ok]
     cases b
     ·simp
     ·simpa using ih
    ·cases he
theorem oc {P : Program} {t : TypeId} {fs : Array Field} {ty : Ty} (hu : P.underlying t = some (.struct fs)) (hp : P.stoodInHeld t = false) (hg : P.eqGuardType P.depth t = false) (hf : tC P 0 fs.toList (mR ty)) : NP P t ty := by
 refine ⟨hg, fun h h' SA SF SA' SF' β β' cs ds vs us r w he hfit hv hu' => ?_⟩
 have hfs : P.fieldsOf t = fs := by simp [Program.fieldsOf, hu]
 show (Op.equalIn (9999 + 1) t _ _).run P w = _
 rw [run_equalIn_struct w 9999 t _ _ (by rw [hfs]; exact hu) hp, hfs]
 exact sF (m := 9998) fs.toList (mR ty) 0 cs ds vs us r hf hfit he hv hu' (fun i v hi => by simpa using hi) (fun i v hi => by simpa using hi)
end Go.Px
namespace Go.Px
open Go
def ok {R : Type} (c : Bool) (x : Option R) : Option R := cond c x none
def jb {P R : Type} (x : Option (R ⊕ P)) (f : P → Option R) : Option R := x.bind fun | .inl r => some r | .inr p => f p
def il {P R : Type} (x : Option R) : Option (R ⊕ P) := x.map .inl
def aB (k : IntKind) (x y : Int) : Int := k.wrap (x + y)
def mN (k : IntKind) (x y : Int) : Int := k.wrap (x - y)
def Rb (k : IntKind) (x y : Int) : Int := k.wrap (x * y)
def Lr (k : IntKind) (x y : Int) : Int := k.wrap (x.tdiv y)
def Ih (_ : IntKind) (x y : Int) : Int := x.tmod y
def Rc (k : IntKind) (x y : Int) : Int := k.wrap (BitVec.ofInt k.bits x &&& BitVec.ofInt k.bits y).toNat
def Ro (k : IntKind) (x y : Int) : Int := k.wrap (BitVec.ofInt k.bits x ||| BitVec.ofInt k.bits y).toNat
def Re (k : IntKind) (x y : Int) : Int := k.wrap (BitVec.ofInt k.bits x ^^^ BitVec.ofInt k.bits y).toNat
def Qu (k : IntKind) (x y : Int) : Int := k.wrap (BitVec.ofInt k.bits x &&& ~~~ BitVec.ofInt k.bits y).toNat
def Rf (k : IntKind) (x y : Int) : Int := k.wrap (x * 2 ^ (min y.toNat k.bits))
def Rg (k : IntKind) (x y : Int) : Int := x.fdiv (2 ^ (min y.toNat k.bits))
def QH (k : IntKind) (x : Int) : Int := k.wrap ((0 : Int) - x)
def bS (x y : Int) : Bool := decide (x < y)
def kG (x y : Int) : Bool := decide (x ≤ y)
def imax (x y : Int) : Int := max x y
def Ri (x y : Int) : Int := min x y
def seq (x y : ByteArray) : Bool := x.toList == y.toList
def slt (x y : ByteArray) : Bool := Op.bytesLess x.toList y.toList
def len {α : Type} (l : List α) : Int := ((l.length : Nat) : Int)
def cW (s : ByteArray) : Int := ((s.size : Nat) : Int)
def part {α : Type} (l : List α) (a b : Nat) : List α := (l.take (a + b)).drop a
def An (n m : Int) (bytes : Nat) : Bool := decide (0 ≤ n) && (decide (n ≤ m) && decide (m * bytes ≤ 140737488355328))
def Di {α : Type} (l : List α) (bytes : Nat) : Bool := decide (((l.length : Nat) : Int) * bytes ≤ 140737488355328)
def bs (l : List Nat) : ByteArray := ⟨(l.map UInt8.ofNat).toArray⟩
end Go.Px
