/- Own texts, part A3: PxO PxOa PxP PxQ PxR PxS PxT. -/
import Derived.Test.YtmmggkldldbomaaGreatDoorA2
import Derived.Orders
set_option linter.unusedVariables false
namespace Go.Px
open Go
def dF (e : Env) (n : Nat) : Prop := (∃ p ∈ e.bk, n ∈ dP SV.names p) ∨ (∃ p ∈ e.aY, n = p.1 ∨ n ∈ dP OV.names p)
theorem bW {α : Type} : ∀ {l : List (Nat × Option α)} {s : Nat} {v : α}, look l s = some v → (s, some v) ∈ l
 | [], _, _, h => by cases h
 | (k, x) :: r, s, v, h => by
  rw [dz] at h
  split at h
  ·subst_vars; exact List.mem_cons_self ..
  ·exact List.mem_cons_of_mem _ (bW h)
theorem ua.QF {e : Env} {n : Nat} (h : ua e n) : dF e n := by
 rcases h with ⟨s, sv, h1, h2⟩ | ⟨o, ov, h1, h2⟩
 ·exact .inl ⟨_, bW h1, h2⟩
 ·exact .inr ⟨_, bW h1, h2.imp (fun h => h.symm) id⟩
structure uj (e e' : Env) : Prop where
 bk : ∀ s, e'.slot s = e.slot s
 aY : ∀ o, e'.obj o = e.obj o
 HW : ∀ n, dF e' n ↔ dF e n
theorem uj.refl (e : Env) : uj e e := ⟨fun _ => rfl, fun _ => rfl, fun _ => .rfl⟩
theorem uj.symm {e e' : Env} (h : uj e e') : uj e' e := ⟨fun s => (h.bk s).symm, fun s => (h.aY s).symm, fun n => (h.HW n).symm⟩
theorem uj.trans {e e' e'' : Env} (h : uj e e') (h' : uj e' e'') : uj e e'' := ⟨fun s => (h'.bk s).trans (h.bk s), fun s => (h'.aY s).trans (h.aY s), fun n => (h'.HW n).trans (h.HW n)⟩
theorem yU (e : Env) (w : W) (n : Nat) : dF (e.put w) n ↔ dF e n ∨ n ∈ dx w := by
 cases w with
 | slot s v =>
  cases v with
  | none => simp [dF, Env.put, dx, dP]
  | some v =>
   simp only [dF, Env.put, dx, List.mem_cons, exists_eq_or_imp, dP]
   rw [or_assoc, or_comm]
 | obj o v =>
  cases v with
  | none =>
   simp only [dF, Env.put, dx, List.mem_cons, exists_eq_or_imp, dP, List.not_mem_nil, or_false]
   rw [or_comm (a := n = o), or_assoc]
  | some v =>
   simp only [dF, Env.put, dx, List.mem_cons, exists_eq_or_imp, dP]
   rw [or_comm (a := n = o ∨ n ∈ v.names), or_assoc]
theorem dI : ∀ (ws : List W) (e : Env) (n : Nat), dF (e.aF ws) n ↔ dF e n ∨ ∃ w ∈ ws, n ∈ dx w
 | [], e, n => by simp [Env.jX]
 | w :: ws, e, n => by
  rw [Env.a7, dI ws, yU, or_assoc]
  simp
theorem DE (e : Env) (w : W) (s : Nat) : (e.put w).slot s = match w with | .slot k v => if k = s then v else e.slot s | .obj _ _ => e.slot s := by
 cases w <;> simp
theorem GC (e : Env) (w : W) (s : Nat) : (e.put w).obj s = match w with | .obj k v => if k = s then v else e.obj s | .slot _ _ => e.obj s := by
 cases w <;> simp
theorem cn : ∀ (ws : List W) (e : Env) (s : Nat), s ∉ ga ws → (e.aF ws).slot s = e.slot s
 | [], _, _, _ => rfl
 | .slot k v :: ws, e, s, h => by
  simp only [ga, List.mem_cons, not_or] at h
  rw [Env.a7, cn ws _ s h.2, dV, if_neg fun h' => h.1 h'.symm]
 | .obj k v :: ws, e, s, h => by rw [Env.a7, cn ws _ s h, lh]
theorem cZ : ∀ (ws : List W) (e : Env) (s : Nat), s ∉ cw ws → (e.aF ws).obj s = e.obj s
 | [], _, _, _ => rfl
 | .obj k v :: ws, e, s, h => by
  simp only [cw, List.mem_cons, not_or] at h
  rw [Env.a7, cZ ws _ s h.2, ai, if_neg fun h' => h.1 h'.symm]
 | .slot k v :: ws, e, s, h => by rw [Env.a7, cZ ws _ s h, lg]
theorem oU : ∀ (ws : List W) (e e' : Env) (s : Nat), e.slot s = e'.slot s → (e.aF ws).slot s = (e'.aF ws).slot s
 | [], _, _, _, h => h
 | w :: ws, e, e', s, h => by
  rw [Env.a7, Env.a7]
  exact oU ws _ _ s (by rw [DE, DE]; cases w <;> simp [h])
theorem qi : ∀ (ws : List W) (e e' : Env) (s : Nat), e.obj s = e'.obj s → (e.aF ws).obj s = (e'.aF ws).obj s
 | [], _, _, _, h => h
 | w :: ws, e, e', s, h => by
  rw [Env.a7, Env.a7]
  exact qi ws _ _ s (by rw [GC, GC]; cases w <;> simp [h])
theorem ln : ∀ (ws : List W) (e e' : Env) (s : Nat), s ∈ ga ws → (e.aF ws).slot s = (e'.aF ws).slot s
 | .slot k v :: ws, e, e', s, h => by
  rw [Env.a7, Env.a7]
  by_cases hs : s ∈ ga ws
  ·exact ln ws _ _ s hs
  ·simp only [ga, List.mem_cons] at h
   rw [cn _ _ _ hs, cn _ _ _ hs, dV, dV, if_pos (h.resolve_right hs).symm, if_pos (h.resolve_right hs).symm]
 | .obj k v :: ws, e, e', s, h => by
  rw [Env.a7, Env.a7]
  exact ln ws _ _ s h
theorem jY : ∀ (ws : List W) (e e' : Env) (s : Nat), s ∈ cw ws → (e.aF ws).obj s = (e'.aF ws).obj s
 | .obj k v :: ws, e, e', s, h => by
  rw [Env.a7, Env.a7]
  by_cases hs : s ∈ cw ws
  ·exact jY ws _ _ s hs
  ·simp only [cw, List.mem_cons] at h
   rw [cZ _ _ _ hs, cZ _ _ _ hs, ai, ai, if_pos (h.resolve_right hs).symm, if_pos (h.resolve_right hs).symm]
 | .slot k v :: ws, e, e', s, h => by
  rw [Env.a7, Env.a7]
  exact jY ws _ _ s h
theorem uj.aF {e e' : Env} (h : uj e e') (ws : List W) : uj (e.aF ws) (e'.aF ws) :=
 ⟨fun s => oU ws _ _ s (h.bk s), fun s => qi ws _ _ s (h.aY s), fun n => by rw [dI, dI, h.HW]⟩
theorem yV {l : List Nat} {s : Nat} : yy l s = true ↔ s ∈ l := by simp [yy]
theorem uk {a b : List Nat} : sb a b = true ↔ ∀ x ∈ a, x ∉ b := by
 simp only [sb, Bool.not_eq_true', List.any_eq_false, yV]
theorem uj.comm (e : Env) {a b : List W} (h1 : sb (ga a) (ga b) = true) (h2 : sb (cw a) (cw b) = true) : uj ((e.aF a).aF b) ((e.aF b).aF a) := by
 rw [uk] at h1 h2
 refine ⟨fun s => ?_, fun s => ?_, fun n => ?_⟩
 ·by_cases hs : s ∈ ga a
  ·rw [ln a _ e s hs, cn b _ s (h1 s hs)]
  ·rw [cn a _ s hs]
   exact oU b _ _ s (cn a e s hs).symm
 ·by_cases hs : s ∈ cw a
  ·rw [jY a _ e s hs, cZ b _ s (h2 s hs)]
  ·rw [cZ a _ s hs]
   exact qi b _ _ s (cZ a e s hs).symm
 ·rw [dI, dI, dI, dI]
  constructor <;> intro h <;> rcases h with (h | h) | h <;> simp [h]
theorem aC.eqv {c : Ctx} {β : Nat → Value} {SF : Loc → Prop} {e e' : Env} {a : Act} {w : World} (H : aC c β SF e a w) (h1 : ∀ s, e'.slot s = e.slot s) (h2 : ∀ o, e'.obj o = e.obj o) : aC c β SF e' a w :=
 ⟨H.os, H.tape, H.output, H.size, H.sr, H.sa, H.P0, H.sf, H.mu, H.nd, H.nt, H.pins, fun s sv h => H.bk s sv (by rw [← h1]; exact h), fun o ov h => H.aY o ov (by rw [← h2]; exact h),
  fun o ov g h => H.own o ov g (by rw [← h2]; exact h), fun o o' ov ov' g hne h h' => H.inj o o' ov ov' g hne (by rw [← h2]; exact h) (by rw [← h2]; exact h')⟩
theorem Rel.eqv {c : Ctx} {e e' : Env} {a : Act} {w : World} (H : Rel c e a w) (h : uj e e') : Rel c e' a w := let ⟨β, SF, H⟩ := H; ⟨β, SF, H.eqv h.bk h.aY⟩
def gT (e : Env) (d : Nat) : Prop := ∀ n, dF e n → BF d n = false
theorem rE {d j : Nat} (h : j < 64) : BF d (nm d j) = true := by
 simp only [BF, nm, Nat.beq_eq]
 omega
theorem gT.one {e : Env} {d j : Nat} (h : gT e d) (hj : j < 64) : ¬ ua e (nm d j) := fun ho => by
 have := h _ ho.QF
 rw [rE hj] at this
 cases this
theorem gT.fresh {e : Env} {d : Nat} (h : gT e d) : lX e d := h.one (by omega)
theorem Fq {e : Env} {d : Nat} (h : Fa e d = true) : gT e d := by
 simp only [Fa, Bool.and_eq_true, Bool.not_eq_true', List.any_eq_false, Bool.or_eq_true, not_or, Bool.not_eq_true] at h
 rintro n (⟨p, hp, hn⟩ | ⟨p, hp, rfl | hn⟩)
 ·exact h.1 p hp n hn
 ·exact (h.2 p hp).1
 ·exact (h.2 p hp).2 n hn
theorem DF {o : Oper} {ws : List W} (h : tW o ws = true) {d : Nat} (hd : o.dst = some d) : ∀ w ∈ ws, ∀ n ∈ dx w, BF d n = false := by
 intro w hw n hn
 simp only [tW, hd, Bool.not_eq_true', List.any_eq_false, Bool.not_eq_true] at h
 exact h w hw n hn
theorem um {e e' : Env} {l : List Nat} (h : ∀ n ∈ l, e'.obj n = e.obj n) : (l.map fun n => (n, e'.obj n)) = l.map fun n => (n, e.obj n) := List.map_congr_left fun n hn => by rw [h n hn]
theorem Fs {e e' : Env} {ts ms : List Nat} (h1 : ∀ t ∈ ts, e'.slot t = e.slot t) (h2 : ∀ n ∈ (wB e ts ms).aY.map (·.1), e'.obj n = e.obj n) : wB e' ts ms = wB e ts ms := by
 have hs : (ts.map fun t => (t, e'.slot t)) = ts.map fun t => (t, e.slot t) := List.map_congr_left fun t ht => by rw [h1 t ht]
 simp only [wB] at h2 ⊢
 rw [hs]
 generalize (ts.map fun t => (t, e.slot t)) = ss at h2 ⊢
 have k1 := um (l := ss.flatMap (dP SV.names)) (e := e) (e' := e') fun n hn => h2 n (List.mem_map.2 ⟨_, List.mem_append_left _ (List.mem_append_left _ (List.mem_map.2 ⟨n, hn, rfl⟩)), rfl⟩)
 rw [k1]
 generalize ((ss.flatMap (dP SV.names)).map fun n => (n, e.obj n)) = o1 at h2 ⊢
 have k2 := um (l := o1.flatMap (dP OV.names)) (e := e) (e' := e') fun n hn => h2 n (List.mem_map.2 ⟨_, List.mem_append_left _ (List.mem_append_right _ (List.mem_map.2 ⟨n, hn, rfl⟩)), rfl⟩)
 rw [k2]
 generalize ((o1.flatMap (dP OV.names)).map fun n => (n, e.obj n)) = o2 at h2 ⊢
 rw [um (e := e) (e' := e') fun n hn => h2 n (List.mem_map.2 ⟨_, List.mem_append_right _ (List.mem_map.2 ⟨n, hn, rfl⟩), rfl⟩)]
theorem yW {cx : Cx} {o : Oper} {e e' : Env} (h1 : ∀ t ∈ tmpsOf o.op.operands.toList, e'.slot t = e.slot t) (h2 : ∀ n ∈ (vw cx e o).aY.map (·.1), e'.obj n = e.obj n) : vw cx e' o = vw cx e o := by
 unfold vw at h2 ⊢
 cases hm : Fc o with
 | false =>
  rw [hm] at h2
  exact Fs h1 h2
 | true =>
  rw [hm] at h2
  have hs : ((tmpsOf o.op.operands.toList).map fun t => (t, e'.slot t)) = (tmpsOf o.op.operands.toList).map fun t => (t, e.slot t) := List.map_congr_left fun t ht => by rw [h1 t ht]
  simp only [cond_true, Gr] at h2 ⊢
  rw [hs, um (e := e) (e' := e') fun n hn => h2 n (List.mem_map.2 ⟨_, List.mem_map.2 ⟨n, hn, rfl⟩, rfl⟩)]
variable (cx : Cx)
def Ex (o : Oper) (v : Env) (ws : List W) : Prop := (pre cx.D v o).1 = true ∧ match fk o with
 | some (f, xs) => ∃ m q, made cx.D (v.aF (pre cx.D v o).2) o.dst f xs = some m ∧ m.ok = true ∧ m.fd.run m.nM = some q ∧ (ws = (pre cx.D v o).2 ++ m.ws q ∨ ∃ pr, rp v ((pre cx.D v o).2 ++ m.ws q) pr = true ∧ ws = prune pr ((pre cx.D v o).2 ++ m.ws q))
 | none => ∃ ef, oper cx.T v o (v.aF (pre cx.D v o).2) = some ef ∧ ef.ok = true ∧ ws = (pre cx.D v o).2 ++ ef.ws
def Mk (o : Oper) (v : Env) : Prop := match fk o with
 | some (f, xs) => ∃ m, made cx.D (v.aF (pre cx.D v o).2) o.dst f xs = some m ∧ m.PZ ≠ 0
 | none => tV o = true
def DG (o : Oper) (e : Env) (v : Env) : Prop := Mk cx o v → (∃ d, o.dst = some d ∧ gT e d) ∧ (∀ f xs m, fk o = some (f, xs) → made cx.D (v.aF (pre cx.D v o).2) o.dst f xs = some m → m.PZ ≤ 64)
theorem yX {e : Env} {o : Oper} (h : Fb e o.dst = true) : ∃ d, o.dst = some d ∧ gT e d := by
 cases hd : o.dst with
 | none => rw [hd] at h; cases h
 | some d => rw [hd] at h; exact ⟨d, rfl, Fq h⟩
theorem vL {R : Type} {pr : List Nat} {o : Oper} {e : Env} {K : List W → Option R} {r : R} (h : exec cx pr o e K = some r) : ∃ ws, Ex cx o (vw cx e o) ws ∧ DG cx o e (vw cx e o) ∧ K ws = some r := by
 unfold exec at h
 simp only [Bool.cond_eq_ite] at h
 split at h
 ·rename_i hp
  split at h
  ·rename_i f xs hc
   split at h
   ·rename_i m hm
    split at h
    ·rename_i hf
     split at h
     ·rename_i hmok
      obtain ⟨q, hq, hK⟩ := Option.bind_eq_some_iff.1 h
      have hmk0 : DG cx o e (vw cx e o) := by
       intro hmk
       unfold Mk at hmk
       rw [hc] at hmk
       obtain ⟨m', hm', hcnt⟩ := hmk
       have e1 : m' = m := Option.some.inj (hm'.symm.trans hm)
       subst e1
       simp only [Bool.or_eq_true, Bool.and_eq_true, Nat.beq_eq, Nat.ble_eq] at hf
       obtain ⟨h1, h2⟩ := hf.resolve_left hcnt
       refine ⟨yX h2, fun f' xs' m'' hc' hm'' => ?_⟩
       rw [hc] at hc'
       cases hc'
       have e1 : m'' = m' := Option.some.inj (hm''.symm.trans hm)
       rw [e1]
       exact h1
      cases pr with
      | nil => exact ⟨_, by unfold Ex; rw [hc]; exact ⟨hp, m, q, hm, hmok, hq, .inl rfl⟩, hmk0, hK⟩
      | cons b pr =>
       simp only at hK
       split at hK
       ·rename_i hs
        exact ⟨_, by unfold Ex; rw [hc]; exact ⟨hp, m, q, hm, hmok, hq, .inr ⟨_, hs, rfl⟩⟩, hmk0, hK⟩
       ·cases hK
     ·cases h
    ·cases h
   ·cases h
  ·rename_i hc
   split at h
   ·rename_i ef hef
    split at h
    ·rename_i hf
     split at h
     ·rename_i hok
      refine ⟨_, ?_, ?_, h⟩
      ·unfold Ex; rw [hc]; exact ⟨hp, ef, hef, hok, rfl⟩
      ·intro hmk
       unfold Mk at hmk
       rw [hc] at hmk
       simp only [Bool.or_eq_true, Bool.not_eq_true'] at hf
       refine ⟨yX (hf.resolve_left (by rw [hmk]; simp)), fun f xs m hc' _ => by rw [hc] at hc'; cases hc'⟩
     ·cases h
    ·cases h
   ·cases h
 ·cases h
inductive Ft (all : List Oper) (o : Oper) (e : Env) (ws : List W) : Prop where
 | run (hg : fp all o = none ∨ ∃ s b f, fp all o = some (some s, b) ∧ e.slot s = some (.cell (.val .bool b f))) (hx : Ex cx o (vw cx e o) ws) (hm : DG cx o e (vw cx e o))
 | skip (hg : ∃ s want, fp all o = some (some s, want) ∧ (e.slot s = some .undef ∨ ∃ b f, e.slot s = some (.cell (.val .bool b f)) ∧ b ≠ want)) (hw : ws = so o)
theorem uj.vw (cx : Cx) {e e' : Env} (h : uj e e') (o : Oper) : vw cx e' o = Px.vw cx e o := yW (fun t _ => h.bk t) (fun n _ => h.aY n)
theorem uj.NT {e e' : Env} (h : uj e e') {d : Nat} (hf : gT e d) : gT e' d := fun n hn => hf n ((h.HW n).1 hn)
theorem DG.eqv {o : Oper} {e e' v : Env} (h : uj e e') (hm : DG cx o e v) : DG cx o e' v := fun hk => let ⟨⟨d, h1, h2⟩, h3⟩ := hm hk; ⟨⟨d, h1, h.NT h2⟩, h3⟩
theorem Ft.eqv {all : List Oper} {o : Oper} {e e' : Env} {ws : List W} (h : uj e e') (hs : Ft cx all o e ws) : Ft cx all o e' ws := by
 cases hs with
 | run hg hx hm => exact .run (hg.imp id fun ⟨s, b, f, h1, h2⟩ => ⟨s, b, f, h1, by rw [h.bk]; exact h2⟩) (by rw [h.vw cx]; exact hx) (by rw [h.vw cx]; exact hm.eqv cx h)
 | skip hg hw =>
  obtain ⟨s, want, h1, h2⟩ := hg
  exact .skip ⟨s, want, h1, by rw [h.bk]; exact h2⟩ hw
theorem uj.refine {e : Env} {s : Nat} {b f : Bool} (h : e.slot s = some (.cell (.val .bool b f))) : uj e (e.put (bz s (.val .bool b f))) := by
 refine ⟨fun s' => ?_, fun _ => rfl, fun n => ?_⟩
 ·simp only [bz, dV]
  split
  ·subst_vars; exact h.symm
  ·rfl
 ·rw [yU]
  simp [bz, dx, SV.names, aq]
theorem A3 {R : Type} {pr : List Nat} {all : List Oper} {o : Oper} {e : Env} {K : List W → Env → Option R} {r : R} (h : step cx pr all o e K = some r) :
  wD cx.N cx.pins o = true ∧ ∃ ws e', Ft cx all o e ws ∧ uj (e.aF ws) e' ∧ K ws e' = some r := by
 unfold step at h
 simp only [Bool.cond_eq_ite] at h
 split at h
 ·rename_i hd
  refine ⟨hd, ?_⟩
  split at h
  ·rename_i hg
   obtain ⟨ws, h1, h2, h3⟩ := vL cx h
   exact ⟨ws, _, .run (.inl hg) h1 h2, .refl _, h3⟩
  ·rename_i s want hg
   split at h
   ·rename_i hs
    exact ⟨_, _, .skip ⟨s, want, hg, .inl hs⟩ rfl, .refl _, h⟩
   ·rename_i b f hs
    have hq := uj.refine hs
    split at h
    ·split at h
     ·rename_i hw
      subst hw
      obtain ⟨ws, h1, h2, h3⟩ := vL cx h
      exact ⟨ws, _, (Ft.run (.inr ⟨s, _, f, hg, by rw [hq.bk]; exact hs⟩) h1 h2).eqv cx hq.symm, hq.aF ws, h3⟩
     ·rename_i hw
      exact ⟨_, _, .skip ⟨s, want, hg, .inr ⟨_, f, hs, fun h => hw h.symm⟩⟩ rfl, hq.aF _, h⟩
    ·split at h
     ·rename_i hw
      exact ⟨_, _, .skip ⟨s, want, hg, .inr ⟨_, f, hs, fun h => by rw [← h] at hw; cases hw⟩⟩ rfl, hq.aF _, h⟩
     ·rename_i hw
      have hw : want = false := by simpa using hw
      subst hw
      obtain ⟨ws, h1, h2, h3⟩ := vL cx h
      exact ⟨ws, _, (Ft.run (.inr ⟨s, _, f, hg, by rw [hq.bk]; exact hs⟩) h1 h2).eqv cx hq.symm, hq.aF ws, h3⟩
   ·cases h
  ·cases h
 ·cases h
end Go.Px
namespace Go.Px
open Go
section
variable {c : Ctx} {β : Nat → Value} {SF : Loc → Prop} {e : Env} {a : Act} {w : World} {ve : Env}
theorem Sub.aF (S : Sub ve e) (ws : List W) : Sub (ve.aF ws) (e.aF ws) where
 slot s v h := by
  by_cases hs : s ∈ ga ws
  ·rw [ln ws e ve s hs]; exact h
  ·rw [cn ws _ s hs] at h ⊢; exact S.slot s v h
 obj o v h := by
  by_cases hs : o ∈ cw ws
  ·rw [jY ws e ve o hs]; exact h
  ·rw [cZ ws _ o hs] at h ⊢; exact S.obj o v h
def fa (SF : Loc → Prop) (et k : Nat) (v : Value) : Loc → Prop := fun l => SF l ∨ ∃ g b n C, v = .slice (some ⟨g, b, none⟩) n C ∧ l = .m et k g (b, C)
theorem aC.JG (H : aC c β SF e a w) {o et st : Nat} {t : Ty} {xs : List t.den} {f : Bool} {bs : List (Option (List t.den))} (ho : e.obj o = some (.row t et xs f st)) (hm : e.obj (an et) = some (.mem t et bs))
  (hsl : cE t = false) (hst : st = 0 ∨ st = 2) :
  aC c β (fa SF et (bs.length + 1) (β o)) ((e.put (.obj o (some (.al t et (bs.length + 1, 0, xs.length))))).put (.obj (an et) (some (.mem t et (bs ++ [some xs]))))) a w ∧
   ∀ v, aG w.heap c.SA SF β (.row o) v → aG w.heap c.SA (fa SF et (bs.length + 1) (β o)) β (.val (.aI et t) ((bs.length + 1, 0, xs.length) : Nat × Nat × Nat) true) v := by
 obtain ⟨vs, how, hch⟩ := H.aY _ _ ho
 obtain ⟨_, M⟩ := H.aY _ _ hm
 have hsub : ∀ l, SF l → fa SF et (bs.length + 1) (β o) l := fun _ h => .inl h
 have hne : o ≠ an et := fun h => by
  rw [h] at ho
  rw [ho] at hm
  cases hm
 have hnat : ∀ k : Nat, fa SF et (bs.length + 1) (β o) k → SF k := fun k h => h.elim id fun ⟨_, _, _, _, _, h⟩ => by cases h
 have hold : ∀ k g C, fa SF et (bs.length + 1) (β o) (.m et k g C) → k ≤ bs.length → SF (.m et k g C) := fun k g C h hk => h.elim id fun ⟨_, _, _, _, _, h⟩ => by cases h; omega
 have hnew : ∀ g C, fa SF et (bs.length + 1) (β o) (.m et (bs.length + 1) g C) → ∃ n, β o = .slice (some ⟨g, C.1, none⟩) n C.2 := fun g C h => h.elim (fun h => by have := (M.E3 _ _ _ h).2; omega) fun ⟨_, _, n, _, h1, h⟩ => by cases h; exact ⟨n, h1⟩
 have hoth : ∀ et' k g C, et' ≠ et → fa SF et (bs.length + 1) (β o) (.m et' k g C) → SF (.m et' k g C) := fun et' k g C hk h => h.elim id fun ⟨_, _, _, _, _, h⟩ => by cases h; exact absurd rfl hk
 have hend : ∀ k ys, (bs ++ [some xs])[k]? = some (some ys) → (k < bs.length ∧ bs[k]? = some (some ys)) ∨ (k = bs.length ∧ ys = xs) := fun k ys h => by
  rw [List.getElem?_append] at h
  split at h
  ·exact .inl ⟨by assumption, h⟩
  ·rename_i hk
   obtain ⟨i, rfl⟩ : ∃ i, k = bs.length + i := ⟨k - bs.length, by omega⟩
   rw [Nat.add_sub_cancel_left] at h
   cases i with
   | zero => cases h; exact .inr ⟨rfl, rfl⟩
   | succ i => simp at h
 have hown : ∀ g, bI (fa SF et (bs.length + 1) (β o)) β (an et) (.mem t et (bs ++ [some xs])) g → bI SF β (an et) (.mem t et bs) g ∨ bo (β o) = some g := by
  rintro g ⟨k, ys, C, h1, h2⟩
  rcases hend k ys h1 with ⟨h3, h4⟩ | ⟨rfl, rfl⟩
  ·exact .inl ⟨k, ys, C, h4, hold _ _ _ h2 (by omega)⟩
  ·obtain ⟨n, hn⟩ := hnew _ _ h2
   exact .inr (by rw [hn]; rfl)
 have hmm : ∀ {ys : List t.den} {us : List Value} {f1 : Bool}, b7 (bm w.heap (S2 c.SA SF f1) t) ys us → b7 (bm w.heap (S2 c.SA (fa SF et (bs.length + 1) (β o)) true) t) ys us := fun hc =>
  hc.mono fun _ _ hr => bm.lT (fun _ _ _ _ h => .inl (.inl (h.elim id fun h => h.2.elim))) hsl hr
 have hal : bm w.heap (S2 c.SA (fa SF et (bs.length + 1) (β o)) true) (.aI et t) [β o] ((bs.length + 1, 0, xs.length) : Nat × Nat × Nat) := by
  rcases how with ⟨h1, ⟨h2, h3⟩ | ⟨g, b0, cap, cur, h2, _, h3, h4, h5, h6, h7⟩⟩
  ·exact ⟨none, 0, 0, by rw [h2], h3, Nat.le_refl _, .inl ⟨rfl, rfl, fun _ => rfl⟩⟩
  ·refine ⟨_, _, _, by rw [h2], rfl, h4, .inr ⟨g, (b0, cap), ?_, ?_, .inl (.inr ⟨g, b0, _, cap, h2, rfl⟩)⟩⟩
   ·show _ = some (⟨g, b0 + 0 * t.size, none⟩ : Addr)
    rw [Nat.zero_mul, Nat.add_zero]
   ·show 0 + cap ≤ cap
    omega
 have hMR : dy w.heap c.SA (fa SF et (bs.length + 1) (β o)) t et (bs ++ [some xs]) := by
  refine ⟨fun k g C h => ?_, fun k g C g' C' h h' => ?_, fun k ys h => ?_, fun k k' ys ys' g C C' h1 h2 h3 h4 => ?_, hsl⟩
  ·rw [List.length_append]
   rcases h with h | ⟨_, _, _, _, _, h⟩
   ·have := M.E3 _ _ _ h
    exact ⟨this.1, by simp; omega⟩
   ·cases h; exact ⟨by omega, by simp⟩
  ·by_cases hk : k ≤ bs.length
   ·exact M.one _ _ _ _ _ (hold _ _ _ h hk) (hold _ _ _ h' hk)
   ·have hk1 : k = bs.length + 1 := by
     rcases h with h | ⟨_, _, _, _, _, h⟩
     ·have := (M.E3 _ _ _ h).2; omega
     ·cases h; rfl
    subst hk1
    obtain ⟨n, hn⟩ := hnew _ _ h
    obtain ⟨n', hn'⟩ := hnew _ _ h'
    rw [hn] at hn'
    injection hn' with e1 e2 e3
    injection e1 with e1
    injection e1 with e4 e5
    exact ⟨e4, Prod.ext e5 e3⟩
  ·rcases hend k ys h with ⟨h3, h4⟩ | ⟨rfl, rfl⟩
   ·rcases M.HQ k ys h4 with ⟨h5, h6⟩ | ⟨g, C, cur, q1, q2, q3, q4, q5, q6⟩
    ·exact .inl ⟨h5, fun g C h => h6 g C (hold _ _ _ h (by omega))⟩
    ·exact .inr ⟨g, C, cur, .inl q1, q2, q3, q4, q5, hmm q6⟩
   ·rcases how with ⟨h1, ⟨h2, h3⟩ | ⟨g, b0, cap, cur, h2, _, h3, h4, h5, h6, h7⟩⟩
    ·refine .inl ⟨List.eq_nil_of_length_eq_zero h3, fun g C h => ?_⟩
     obtain ⟨n, hn⟩ := hnew _ _ h
     rw [h2] at hn
     cases hn
    ·exact .inr ⟨g, (b0, cap), cur, .inr ⟨g, b0, _, cap, h2, rfl⟩, h3, h4, h5, h6, by rw [h7]; exact hmm hch⟩
  ·rcases hend k ys h1 with ⟨p1, p2⟩ | ⟨rfl, rfl⟩ <;> rcases hend k' ys' h2 with ⟨r1, r2⟩ | ⟨rfl, rfl⟩
   ·exact M.inj _ _ _ _ _ _ _ p2 r2 (hold _ _ _ h3 (by omega)) (hold _ _ _ h4 (by omega))
   ·obtain ⟨n, hn⟩ := hnew _ _ h4
    exact (H.inj o (an et) _ _ g hne ho hm (show bo (β o) = some g by rw [hn]; rfl) ⟨k, ys, C, p2, hold _ _ _ h3 (by omega)⟩).elim
   ·obtain ⟨n, hn⟩ := hnew _ _ h3
    exact (H.inj o (an et) _ _ g hne ho hm (show bo (β o) = some g by rw [hn]; rfl) ⟨k', ys', C', r2, hold _ _ _ h4 (by omega)⟩).elim
   ·rfl
 refine ⟨H.go' (fun _ => False) rfl rfl rfl (Nat.le_refl _) (fun _ _ _ => rfl) (fun _ h => h.elim) hsub (fun k hk => H.sf k (hnat k hk)) H.nd H.nt (fun _ _ => rfl)
  (fun s sv hs => .inl ⟨hs, rfl, fun _ _ => rfl⟩) (fun o' ov ho' => ?_) (fun o1 o2 ov1 ov2 g hne12 h1 h2 hg1 hg2 => ?_), fun v hv => ?_⟩
 ·rw [ai, ai] at ho'
  by_cases h1 : an et = o'
  ·rw [if_pos h1] at ho'
   cases ho'
   subst h1
   refine .inr ⟨⟨rfl, hMR⟩, fun g hg => ?_⟩
   have hown2 : ∀ {ov : OV} {o' : Nat}, e.obj o' = some ov → ov.st ≠ 1 → bI SF β o' ov g → g < w.heap.size ∧ (c.tq g ∨ c.w0.heap.size ≤ g ∧ ¬ SF g) := fun q1 q2 q3 => by
    obtain ⟨r1, r2⟩ := H.own _ _ g q1 q3
    refine ⟨r1, ?_⟩
    rcases r2 with r2 | r2 | r2
    ·exact .inr r2.2
    ·exact absurd r2.1 q2
    ·exact r2.2
   have : g < w.heap.size ∧ (c.tq g ∨ c.w0.heap.size ≤ g ∧ ¬ SF g) := by
    rcases hown g hg with h | h
    ·exact hown2 hm (by simp [OV.st]) h
    ·exact hown2 ho (by simp only [OV.st]; omega) h
   exact ⟨this.1, .inr (.inr ⟨rfl, this.2.imp id fun h => ⟨h.1, fun hs => h.2 (hnat g hs)⟩⟩)⟩
  ·rw [if_neg h1] at ho'
   by_cases h2 : o = o'
   ·rw [if_pos h2] at ho'; cases ho'; subst h2; exact .inr ⟨hal, fun g hg => hg.elim⟩
   ·rw [if_neg h2] at ho'
    refine .inl ⟨ho', rfl, fun _ _ => rfl, fun g hg => ⟨id, fun _ hs => hnat g hs⟩, ?_⟩
    cases ov with
    | mem t' et' bs' =>
     obtain ⟨h3, _⟩ := H.aY _ _ ho'
     exact fun k g C => hoth _ _ _ _ fun h => h1 (by rw [h3, h])
    | _ => trivial
 ·have key : ∀ o' ov', ((e.put (.obj o (some (.al t et (bs.length + 1, 0, xs.length))))).put (.obj (an et) (some (.mem t et (bs ++ [some xs]))))).obj o' = some ov' → bI (fa SF et (bs.length + 1) (β o)) β o' ov' g →
    (o' = an et ∧ (bI SF β (an et) (.mem t et bs) g ∨ bo (β o) = some g)) ∨ (o' ≠ an et ∧ o' ≠ o ∧ ∃ ov2, e.obj o' = some ov2 ∧ bI SF β o' ov2 g) := fun o' ov' h hg => by
   rw [ai, ai] at h
   by_cases h1 : an et = o'
   ·rw [if_pos h1] at h
    cases h
    subst h1
    exact .inl ⟨rfl, hown g hg⟩
   ·rw [if_neg h1] at h
    by_cases h2 : o = o'
    ·rw [if_pos h2] at h; cases h; exact hg.elim
    ·rw [if_neg h2] at h
     refine .inr ⟨fun h => h1 h.symm, fun h => h2 h.symm, ov', h, hg.back ?_ rfl⟩
     cases ov' with
     | mem t' et' bs' =>
      obtain ⟨h3, _⟩ := H.aY _ _ h
      exact fun k g C => hoth _ _ _ _ fun h => h1 (by rw [h3, h])
     | _ => trivial
  rcases key _ _ h1 hg1 with ⟨p1, p2⟩ | ⟨p1, p2, ov3, p3, p4⟩ <;> rcases key _ _ h2 hg2 with ⟨r1, r2⟩ | ⟨r1, r2, ov4, r3, r4⟩
  ·exact hne12 (p1.trans r1.symm)
  ·rcases p2 with p2 | p2
   ·exact H.inj (an et) o2 _ _ g (fun h => r1 h.symm) hm r3 p2 r4
   ·exact H.inj o o2 _ _ g (fun h => r2 h.symm) ho r3 p2 r4
  ·rcases r2 with r2 | r2
   ·exact H.inj (an et) o1 _ _ g (fun h => p1 h.symm) hm p3 r2 p4
   ·exact H.inj o o1 _ _ g (fun h => p2 h.symm) ho p3 r2 p4
  ·exact H.inj _ _ _ _ g hne12 p3 r3 p4 r4
 ·obtain ⟨rfl, _⟩ := hv
  exact hal
theorem aC.Lj (H : aC c β SF e a w) {et n : Nat} {t : Ty} {bs : List (Option (List t.den))} {x : Nat × Nat × Nat} {f : Bool} {v : Value} (hm : e.obj (an et) = some (.mem t et bs)) (hn : ¬ ua e n)
  (hv : aG w.heap c.SA SF β (.val (.aI et t) x f) v) (h0 : x.2.1 = 0) (hl : x.1 = 0 ∨ fI bs x.1 = true ∧ x.2.2 ≤ (ak bs x.1).length) :
  aC c (AU β n v) SF ((e.put (.obj (an et) (some (.mem t et (eY bs none x.1))))).put (.obj n (some (.row t et ((ak bs x.1).take x.2.2) true 2)))) a w ∧ (∃ A m C, v = .slice A m C) := by
 obtain ⟨_, M⟩ := H.aY _ _ hm
 have hlive : ∀ i ys, (eY bs none x.1)[i]? = some (some ys) → x.1 ≠ i + 1 ∧ bs[i]? = some (some ys) := fun i ys h => by
  rcases vK h with ⟨_, h⟩ | h
  ·cases h
  ·exact h
 have H1 := H.qe hm (ov' := .mem t et (eY bs none x.1)) (.inl rfl) ⟨rfl, ⟨fun k g C h => by rw [xT]; exact M.E3 k g C h, M.one, fun k ys h => M.HQ k ys (hlive k ys h).2,
  fun k k' ys ys' g C C' p q => M.inj k k' ys ys' g C C' (hlive k ys p).2 (hlive k' ys' q).2, M.sl⟩⟩ (fun g ⟨k, ys, C, h1, h2⟩ => ⟨k, ys, C, (hlive k ys h1).2, h2⟩)
 obtain ⟨A, m, C, hv, hlen, hmC, hrow⟩ := hv
 simp only [List.cons.injEq, and_true] at hv
 subst hv
 have hocc : ¬ ua (e.put (.obj (an et) (some (.mem t et (eY bs none x.1))))) n := by
  rintro (⟨s, sv, h1, h2⟩ | ⟨o, ov, h1, h2⟩)
  ·exact hn (.inl ⟨s, sv, h1, h2⟩)
  ·rw [ai] at h1
   split at h1
   ·cases h1
    rename_i h3
    rcases h2 with h2 | h2
    ·exact hn (.inr ⟨_, _, hm, .inl (h3.trans h2)⟩)
    ·simp [OV.names] at h2
   ·exact hn (.inr ⟨o, ov, h1, h2⟩)
 have hob : ∃ vs, w.fc 0 et t.size (.slice A m C) ((ak bs x.1).take x.2.2).length vs ∧ b7 (bm w.heap (S2 c.SA SF true) t) ((ak bs x.1).take x.2.2) vs := by
  rcases hrow with ⟨hz, hz', hz2⟩ | ⟨g, C', rfl, hle, hS⟩
  ·have hA := hz2 h0
   have hx : (ak bs x.1).take x.2.2 = [] := by rw [hlen, hz]; rfl
   subst hA hz hz'
   rw [hx]
   exact ⟨[], World.dW _ _ _ _, rfl⟩
  ·have hS : SF (.m et x.1 g C') := hS.elim id fun h => h.2.elim
   have hk : x.1 ≠ 0 := fun h => by have := (M.E3 _ _ _ hS).1; omega
   obtain ⟨hl, hxl⟩ := hl.resolve_left hk
   obtain ⟨cur, hcur, h1, h2, h3, hch⟩ := M.hit hS hl
   have hch' := hch.take x.2.2
   rw [List.take_take, Nat.min_eq_left (Nat.mul_le_mul_right _ hxl)] at hch'
   have hlt : ((ak bs x.1).take x.2.2).length = m := by rw [List.length_take]; omega
   refine ⟨_, ⟨hch'.len, ?_⟩, hch'⟩
   rw [hlt]
   have e0 : (⟨g, C'.1 + x.2.1 * t.size, none⟩ : Addr) = ⟨g, C'.1, none⟩ := by rw [h0, Nat.zero_mul, Nat.add_zero]
   rw [e0]
   exact .inr ⟨g, C'.1, C, cur, rfl, Nat.zero_le _, hcur, hmC, by omega, Nat.le_trans (Nat.add_le_add_left (Nat.mul_le_mul_right _ (by omega)) _) h3, by rw [hlen]⟩
 obtain ⟨vs, how, hch⟩ := hob
 refine ⟨H1.new (v := .slice A m C) hocc (fun _ => False) rfl rfl rfl (Nat.le_refl _) (fun _ _ _ => rfl) (fun _ h => h.elim) (fun _ _ _ _ _ h => h) (ov := .row t et ((ak bs x.1).take x.2.2) true 2)
  ⟨vs, by rw [bT]; exact how, hch⟩ (fun g hg => ?_), _, _, _, rfl⟩
 rcases hrow with ⟨hz, hz', hz2⟩ | ⟨g', C', rfl, hle, hS⟩
 ·rw [hz2 h0] at hg; cases hg
 ·cases hg
  have hS : SF (.m et x.1 g' C') := hS.elim id fun h => h.2.elim
  have hk : x.1 ≠ 0 := fun h => by have := (M.E3 _ _ _ hS).1; omega
  obtain ⟨hl, hxl⟩ := hl.resolve_left hk
  obtain ⟨j, hj, hjb⟩ := hE hl
  have how : bI SF β (an et) (.mem t et bs) g' := ⟨j, _, C', hjb, hj ▸ hS⟩
  obtain ⟨q1, q2⟩ := H.own _ _ g' hm how
  refine ⟨q1, .inr (.inr ⟨rfl, ?_⟩), fun o' ov' h1 h2 => ?_⟩
  ·rcases q2 with q2 | q2 | q2
   ·exact absurd q2.1 (by simp [OV.st])
   ·exact absurd q2.1 (by simp [OV.st])
   ·exact q2.2
  ·rw [ai] at h1
   split at h1
   ·cases h1
    rename_i h3
    obtain ⟨k, ys, C2, p1, p2⟩ := h2
    obtain ⟨p3, p4⟩ := hlive k ys p1
    exact p3 (by rw [hj, M.inj j k _ _ _ _ _ hjb p4 (hj ▸ hS) p2])
   ·rename_i h3
    exact H.inj _ _ _ _ g' h3 hm h1 how h2
theorem dF.obj {e : Env} {o : Nat} {ov : OV} (h : e.obj o = some ov) : dF e o := .inr ⟨_, bW h, .inl rfl⟩
theorem su (S : Sub ve e) (H : aC c β SF e a w) (cl : Cell) :
  ∃ SF', (∀ l, SF l → SF' l) ∧ aC c β SF' (e.aF (ld ve cl).2) a w ∧ (∀ v, aG w.heap c.SA SF β cl v → aG w.heap c.SA SF' β (ld ve cl).1 v) ∧ (∀ u ∈ (ld ve cl).2, ∀ n ∈ dx u, dF e n) ∧
   ∀ n ∈ aq (ld ve cl).1, n ∈ aq cl := by
 have cU : ∀ {q : Cell × List W}, q = (cl, []) → ∃ SF', (∀ l, SF l → SF' l) ∧ aC c β SF' (e.aF q.2) a w ∧ (∀ v, aG w.heap c.SA SF β cl v → aG w.heap c.SA SF' β q.1 v) ∧ (∀ u ∈ q.2, ∀ n ∈ dx u, dF e n) ∧ ∀ n ∈ aq q.1, n ∈ aq cl := by
  rintro _ rfl
  exact ⟨SF, fun _ h => h, H, fun _ h => h, fun u hu => (by cases hu), fun _ h => h⟩
 unfold ld
 split
 ·rename_i o
  split
  ·rename_i t et xs f st ho
   split
   ·rename_i bs hbs
    split
    ·rename_i hc
     simp only [Bool.and_eq_true, Bool.or_eq_true, Bool.not_eq_true', Nat.beq_eq] at hc
     have ho := S.obj _ _ ho
     have hm := S.obj _ _ (lK hbs)
     obtain ⟨h1, h2⟩ := H.JG ho hm hc.1 hc.2
     refine ⟨_, fun _ h => .inl h, h1, h2, fun u hu n hn => ?_, fun n hn => by simp [aq] at hn⟩
     simp only [List.mem_cons, List.not_mem_nil, or_false] at hu
     rcases hu with rfl | rfl
     ·simp only [dx, OV.names, List.mem_singleton] at hn
      exact hn ▸ dF.obj ho
     ·simp only [dx, OV.names, List.mem_singleton] at hn
      exact hn ▸ dF.obj hm
    ·exact cU rfl
   ·exact cU rfl
  ·exact cU rfl
 ·exact cU rfl
theorem qj : ∀ (cs : List Cell) {ve e : Env} {SF : Loc → Prop}, Sub ve e → aC c β SF e a w →
  ∃ SF', (∀ l, SF l → SF' l) ∧ aC c β SF' (e.aF (iD ve cs).2) a w ∧ (∀ vs, ao w.heap c.SA SF β cs vs → ao w.heap c.SA SF' β (iD ve cs).1 vs) ∧ (∀ u ∈ (iD ve cs).2, ∀ n ∈ dx u, dF e n) ∧
   ∀ n ∈ (iD ve cs).1.flatMap aq, n ∈ cs.flatMap aq
 | [], ve, e, SF, _, H => ⟨SF, fun _ h => h, H, fun _ h => h, fun u hu => (by cases hu), fun _ h => h⟩
 | cl :: cs, ve, e, SF, S, H => by
  obtain ⟨SF1, h1, h2, h3, h4, h5⟩ := su S H cl
  obtain ⟨SF2, k1, k2, k3, k4, k5⟩ := qj cs (S.aF _) h2
  refine ⟨SF2, fun l h => k1 l (h1 l h), ?_, fun vs hvs => ?_, fun u hu n hn => ?_, fun n hn => ?_⟩
  ·simp only [iD]
   rw [Env.cA]
   exact k2
  ·obtain ⟨v, r, rfl, q1, q2⟩ := hvs
   exact ⟨v, r, rfl, (h3 v q1).mono k1 (fun _ _ => rfl) (fun _ _ => rfl), k3 r (ao.mono h1 (fun _ _ => rfl) (fun _ _ => rfl) q2)⟩
  ·simp only [iD, List.mem_append] at hu
   rcases hu with hu | hu
   ·exact h4 u hu n hn
   ·have := k4 u hu n hn
    rw [dI] at this
    exact this.elim id fun ⟨u', hu', hn'⟩ => h4 u' hu' n hn'
  ·simp only [iD, List.flatMap_cons, List.mem_append] at hn ⊢
   exact hn.imp (h5 n) (k5 n)
theorem dF.slot {e : Env} {s n : Nat} {sv : SV} (h : e.slot s = some sv) (hn : n ∈ sv.names) : dF e n := .inl ⟨_, bW h, hn⟩
theorem Al (S : Sub ve e) (H : aC c β SF e a w) (s : Nat) : ∃ SF', aC c β SF' (e.aF (xM ve s)) a w ∧ ∀ u ∈ xM ve s, ∀ n ∈ dx u, dF e n := by
 have cU : ∃ SF', aC c β SF' (e.aF []) a w ∧ ∀ u ∈ ([] : List W), ∀ n ∈ dx u, dF e n := ⟨SF, H, fun u hu => (by cases hu)⟩
 unfold xM
 split
 ·rename_i cl hs
  obtain ⟨SF1, h1, h2, h3, h4, h5⟩ := su S H cl
  have hs := S.slot _ _ hs
  obtain ⟨q1, q2⟩ := H.bk _ _ hs
  simp only
  split
  ·exact cU
  ·rename_i x r hx
   rw [hx] at h2 h4
   refine ⟨SF1, ?_, fun u hu n hn => ?_⟩
   ·rw [Env.cA]
    exact h2.yH s q1 _ fun y hy => by cases hy; exact h3 _ q2
   ·rcases List.mem_append.1 hu with hu | hu
    ·exact h4 u hu n hn
    ·simp only [List.mem_singleton] at hu
     subst hu
     simp only [bz, dx, SV.names] at hn
     exact dF.slot hs (h5 n hn)
 ·rename_i cs hs
  obtain ⟨SF1, h1, h2, h3, h4, h5⟩ := qj (c := c) (β := β) (a := a) (w := w) cs S H
  have hs := S.slot _ _ hs
  obtain ⟨q1, q2⟩ := H.bk _ _ hs
  simp only
  split
  ·exact cU
  ·rename_i x r hx
   rw [hx] at h2 h4
   refine ⟨SF1, ?_, fun u hu n hn => ?_⟩
   ·rw [Env.cA]
    refine h2.yH s q1 _ fun y hy => ?_
    cases hy
    obtain ⟨vs, g1, g2⟩ := q2
    exact ⟨vs, g1, h3 _ g2⟩
   ·rcases List.mem_append.1 hu with hu | hu
    ·exact h4 u hu n hn
    ·simp only [List.mem_singleton] at hu
     subst hu
     simp only [nO, dx, SV.names] at hn
     exact dF.slot hs (h5 n hn)
 ·exact cU
theorem lY : ∀ (l : List Nat) {ve e : Env} {SF : Loc → Prop}, Sub ve e → aC c β SF e a w → ∃ SF', aC c β SF' (e.aF (dM ve l)) a w ∧ ∀ u ∈ dM ve l, ∀ n ∈ dx u, dF e n
 | [], ve, e, SF, _, H => ⟨SF, H, fun u hu => (by cases hu)⟩
 | s :: l, ve, e, SF, S, H => by
  obtain ⟨SF1, h1, h2⟩ := Al S H s
  obtain ⟨SF2, k1, k2⟩ := lY l (S.aF _) h1
  refine ⟨SF2, ?_, fun u hu n hn => ?_⟩
  ·simp only [dM]
   rw [Env.cA]
   exact k1
  ·simp only [dM, List.mem_append] at hu
   rcases hu with hu | hu
   ·exact h2 u hu n hn
   ·have := k2 u hu n hn
    rw [dI] at this
    exact this.elim id fun ⟨u', hu', hn'⟩ => h2 u' hu' n hn'
theorem DH (S : Sub ve e) (H : aC c β SF e a w) {d s : Nat} (hn : ¬ ua e (nm d 1)) (hok : (Dk ve d s).1 = true) :
  ∃ β', aC c β' SF (e.aF (Dk ve d s).2) a w ∧ ∀ u ∈ (Dk ve d s).2, ∀ n ∈ dx u, dF e n ∨ n = nm d 1 := by
 have cU : ∃ β', aC c β' SF (e.aF []) a w ∧ ∀ u ∈ ([] : List W), ∀ n ∈ dx u, dF e n ∨ n = nm d 1 := ⟨β, H, fun u hu => (by cases hu)⟩
 unfold Dk at hok ⊢
 split at hok
 ·rename_i et t x f hs
  split at hok
  ·rename_i bs hbs
   simp only [Q2, Bool.and_eq_true, Bool.or_eq_true, Nat.beq_eq, Nat.ble_eq] at hok
   have hs' := S.slot _ _ hs
   have hm := S.obj _ _ (lK hbs)
   obtain ⟨q1, q2⟩ := H.bk _ _ hs'
   obtain ⟨h1, h2⟩ := H.Lj hm hn q2 hok.1 hok.2
   simp only
   refine ⟨_, h1.yH s q1 _ (fun y hy => by cases hy; exact ⟨(bT _ _).symm, h2⟩), fun u hu n hn' => ?_⟩
   simp only [List.mem_cons, List.not_mem_nil, or_false] at hu
   rcases hu with rfl | rfl | rfl
   ·simp only [dx, OV.names, List.mem_singleton] at hn'
    exact .inl (hn' ▸ dF.obj hm)
   ·simp only [dx, OV.names, List.mem_singleton] at hn'
    exact .inr hn'
   ·simp only [bz, dx, SV.names, aq, List.mem_singleton] at hn'
    exact .inr hn'
  ·rename_i hbs
   simp only
   exact cU
 ·exact cU
theorem HY (S : Sub ve e) (H : Rel c e a w) {D : Den} {o : Oper} (hok : (pre D ve o).1 = true) (hfr : fk o = none → tV o = true → ∃ d, o.dst = some d ∧ gT e d) :
  (∃ β' SF', aC c β' SF' (e.aF (pre D ve o).2) a w ∧ (isApp o = true → tx c SF' a w ve)) ∧ (fk o ≠ none → ∀ n, dF (e.aF (pre D ve o).2) n → dF e n) ∧ (∀ d, o.dst = some d → gT e d → fk o = none → lX (e.aF (pre D ve o).2) d) := by
 obtain ⟨β, SF, H⟩ := H
 have cU : (∃ β' SF', aC c β' SF' (e.aF []) a w ∧ (isApp o = true → tx c SF' a w ve)) ∧ (fk o ≠ none → ∀ n, dF (e.aF []) n → dF e n) ∧ (∀ d, o.dst = some d → gT e d → fk o = none → lX (e.aF []) d) := ⟨⟨β, SF, H, fun _ => (haveI := S; H.JE)⟩, fun _ _ h => h, fun d _ h _ => h.fresh⟩
 have abs : isApp o = false → ∀ l, (∃ β' SF', aC c β' SF' (e.aF (dM ve l)) a w ∧ (isApp o = true → tx c SF' a w ve)) ∧ (fk o ≠ none → ∀ n, dF (e.aF (dM ve l)) n → dF e n) ∧ (∀ d, o.dst = some d → gT e d → fk o = none → lX (e.aF (dM ve l)) d) := fun hna l => by
  obtain ⟨SF1, h1, h2⟩ := lY (c := c) (β := β) (a := a) (w := w) l S H
  have hocc : ∀ n, dF (e.aF (dM ve l)) n → dF e n := fun n hn => by
   rw [dI] at hn
   exact hn.elim id fun ⟨u, hu, hn⟩ => h2 u hu n hn
  exact ⟨⟨β, SF1, h1, fun h => by rw [hna] at h; cases h⟩, fun _ => hocc, fun d _ hf _ => gT.fresh fun n hn => hf n (hocc n hn)⟩
 unfold pre at hok ⊢
 split
 ·rename_i hc1
  have hn1 : isApp o = false := by
   cases hA : isApp o with
   | false => rfl
   | true =>
    unfold isApp at hA
    split at hA
    ·rename_i hop
     unfold fk at hc1
     rw [hop] at hc1
     cases hc1
    ·cases hA
  split
  ·split
   ·rename_i fd _
    cases fd.sig.bA.isEmpty
    ·exact abs hn1 _
    ·exact cU
   ·exact cU
  ·exact cU
 ·rename_i hc
  split
  ·rename_i args tys d hop hdst
   split
   ·rename_i s r hargs
    simp only [hc, hop, hdst, hargs] at hok
    obtain ⟨d', h1, h2⟩ := hfr hc (by simp only [tV, hop])
    rw [hdst] at h1
    cases h1
    obtain ⟨β', k1, k2⟩ := DH S H (h2.one (by omega)) hok
    refine ⟨⟨β', SF, k1, fun _ => (haveI := S; H.JE)⟩, fun h => absurd hc h, fun d'' hd'' hf _ => ?_⟩
    rw [hdst] at hd''
    cases hd''
    intro ho
    have ho := ho.QF
    rw [dI] at ho
    rcases ho with ho | ⟨u, hu, hn⟩
    ·have := hf _ ho
     rw [rE (by omega)] at this
     cases this
    ·rcases k2 u hu _ hn with ho | ho
     ·have := hf _ ho
      rw [rE (by omega)] at this
      cases this
     ·simp only [nm] at ho
      omega
   ·exact cU
  ·rename_i x y hop
   have hn2 : isApp o = false := by unfold isApp; rw [hop]
   cases isVar ve x
   ·exact abs hn2 _
   ·exact abs hn2 _
  ·rename_i hop
   exact abs (by unfold isApp; rw [hop]) _
  ·exact cU
end
end Go.Px
namespace Go.Px
open Go
section
variable (P : Program) (cx : Cx) (c : Ctx)
def n9 : Prop := ∀ (o : Oper) (e : Env) (a : Act) (w : World) (β : Nat → Value) (SF : Loc → Prop) (f : Operand) (xs : List Operand) (m : Made) (q : m.fd.sig.Out) (ve : Env), Sub ve e →
 aC c β SF e a w → (∀ d, o.dst = some d → c.ok d) → fk o = some (f, xs) → made cx.D ve o.dst f xs = some m → m.ok = true →
 (m.PZ ≠ 0 → (∃ d, o.dst = some d ∧ gT e d) ∧ m.PZ ≤ 64) → m.fd.run m.nM = some q →
 ∀ (K : Act → World → Prop) (Q : Exit → Act → World → Prop), (∀ a w, Rel c (e.aF (m.ws q)) a w → K a w) → o.wp P a w K Q
structure Fits : Prop where
 T : mL P cx.T
 calls : n9 P cx c
 N : c.N = cx.N
 NR : c.NR.map (·.1) = cx.pins
end
section
variable {P : Program} {cx : Cx} {c : Ctx} {Q : Exit → Act → World → Prop} {e : Env} {a : Act} {w : World}
theorem Fits.dst (F : Fits P cx c) {o : Oper} (h : wD cx.N cx.pins o = true) : ∀ d, o.dst = some d → c.ok d := by
 intro d hd
 simp only [wD, hd, Bool.and_eq_true, Nat.ble_eq, Bool.not_eq_true', List.any_eq_false] at h
 refine ⟨by rw [F.N]; omega, fun p hp he => ?_⟩
 have : p.1 ∈ cx.pins := by rw [← F.NR]; exact List.mem_map.2 ⟨p, hp, rfl⟩
 exact h.2 p.1 this (by simp [he])
theorem oV {pr : List Nat} : ∀ (ws : List W) (e e' : Env) (s : Nat), e.slot s = e'.slot s → (e.aF (prune pr ws)).slot s = (e'.aF ws).slot s
 | [], _, _, _, h => h
 | .slot s' v :: r, e, e', s, h => by
  simp only [prune]
  exact oV r (e.put (.slot s' v)) (e'.put (.slot s' v)) s (by rw [dV, dV, h])
 | .obj o v :: r, e, e', s, h => by
  simp only [prune, Bool.cond_eq_ite]
  split
  ·exact oV r e (e'.put (.obj o v)) s (by rw [lh, h])
  ·exact oV r (e.put (.obj o v)) (e'.put (.obj o v)) s (by rw [lh, lh, h])
theorem rF {pr : List Nat} {o : Nat} (ho : yy pr o = false) : ∀ (ws : List W) (e e' : Env), e.obj o = e'.obj o → (e.aF (prune pr ws)).obj o = (e'.aF ws).obj o
 | [], _, _, h => h
 | .slot s' v :: r, e, e', h => by
  simp only [prune]
  exact rF ho r (e.put (.slot s' v)) (e'.put (.slot s' v)) (by rw [lg, lg, h])
 | .obj n v :: r, e, e', h => by
  simp only [prune, Bool.cond_eq_ite]
  split
  ·rename_i hn
   refine rF ho r e (e'.put (.obj n v)) ?_
   rw [ai, h]
   split
   ·subst_vars; rw [ho] at hn; cases hn
   ·rfl
  ·exact rF ho r (e.put (.obj n v)) (e'.put (.obj n v)) (by rw [ai, ai, h])
theorem uo {pr : List Nat} {o : Nat} (ho : yy pr o = true) : ∀ (ws : List W) (e : Env), (e.aF (prune pr ws)).obj o = e.obj o
 | [], _ => rfl
 | .slot s' v :: r, e => by
  simp only [prune]
  exact (uo ho r (e.put (.slot s' v))).trans (lg ..)
 | .obj n v :: r, e => by
  simp only [prune, Bool.cond_eq_ite]
  split
  ·exact uo ho r e
  ·rename_i hn
   refine (uo ho r (e.put (.obj n v))).trans ?_
   rw [ai, if_neg (fun h => by subst h; exact hn ho)]
theorem BS {h : Array Obj} {SA : Nat → Prop} {SF : Loc → Prop} {β : Nat → Value} {c d : Cell} {v : Value} (hs : yz c d = true) (H : aG h SA SF β d v) : aG h SA SF β c v := by
 unfold yz at hs
 split at hs
 ·rename_i k x _ k' y _
  have h12 : Ty.fZ k k' = true ∧ (show Bool from (show Int from x) == (show Int from y)) = true := by
   cases hk : Ty.fZ k k' with
   | true => rw [hk] at hs; exact ⟨rfl, hs⟩
   | false => rw [hk] at hs; cases hs
  obtain ⟨h1, h2⟩ := h12
  have h1 := Ty.dH h1
  subst h1
  simp only [aG, bm] at H ⊢
  rw [H]
  have := eq_of_beq h2
  exact congrArg (fun z => [Value.int _ z]) this.symm
 ·simp only [aG, bm] at H ⊢
  rw [H]
  rename_i x _ y _
  have : x = y := by cases x <;> cases y <;> first | rfl | cases hs
  rw [this]
 ·cases hs
theorem sw {h : Array Obj} {SA : Nat → Prop} {SF : Loc → Prop} {β : Nat → Value} : ∀ {cs ds : List Cell} {vs : List Value}, nQ cs ds = true → ao h SA SF β ds vs → ao h SA SF β cs vs
 | [], [], _, _, H => H
 | _ :: _, _ :: _, _, hs, H => by
  simp only [nQ, Bool.and_eq_true] at hs
  obtain ⟨v, r, e, h1, h2⟩ := H
  exact ⟨v, r, e, BS hs.1 h1, sw hs.2 h2⟩
theorem Fu {c : Ctx} {SF : Loc → Prop} {β : Nat → Value} {o : Nat} {x y : Option OV} (hs : BG x y = true) : ∃ ov ov', x = some ov ∧ y = some ov' ∧ ov'.st = ov.st ∧ (cS c.SA SF β w o ov' → cS c.SA SF β w o ov) ∧ ∀ g, bI SF β o ov g → bI SF β o ov' g := by
 unfold BG at hs
 split at hs
 ·rename_i cs st ds st'
  have h12 : Nat.beq st st' = true ∧ nQ cs ds = true := by
   cases hk : Nat.beq st st' with
   | true => rw [hk] at hs; exact ⟨rfl, hs⟩
   | false => rw [hk] at hs; cases hs
  refine ⟨_, _, rfl, rfl, (Nat.eq_of_beq_eq_true h12.1).symm, ?_, fun _ h => h⟩
  rintro ⟨g, arr, et, h1, h2, h3⟩
  exact ⟨g, arr, et, h1, h2, sw h12.2 h3⟩
 ·cases hs
theorem wH {v : Env} {ws : List W} {b : Nat} : ∀ {pr : List Nat}, rp v ws pr = true → b ∈ pr → BG (v.obj b) ((v.aF ws).obj b) = true
 | _ :: _, h, hb => by
  simp only [rp, Bool.and_eq_true] at h
  rcases List.mem_cons.1 hb with rfl | hb
  ·exact h.1
  ·exact wH h.2 hb
theorem H6 {o : Oper} {ws : List W} {pr : List Nat} (hs : rp (vw cx e o) ws pr = true) (H : Rel c (e.aF ws) a w) : Rel c (e.aF (prune pr ws)) a w := by
 obtain ⟨β, SF, H⟩ := H
 have key : ∀ n ov, (e.aF (prune pr ws)).obj n = some ov → ∃ ov', (e.aF ws).obj n = some ov' ∧ ov'.st = ov.st ∧ (cS c.SA SF β w n ov' → cS c.SA SF β w n ov) ∧ ∀ g, bI SF β n ov g → bI SF β n ov' g := by
  intro n ov h
  cases hm : yy pr n with
  | false => exact ⟨ov, by rw [← rF hm ws e e rfl]; exact h, rfl, id, fun _ h => h⟩
  | true =>
   rw [uo hm ws e] at h
   obtain ⟨x, y, h1, h2, h3, h4, h6⟩ := Fu (c := c) (SF := SF) (β := β) (o := n) (w := w) (wH hs (yV.1 hm))
   have h5 : e.obj n = some x := bE h1
   have e1 : x = ov := Option.some.inj (h5.symm.trans h)
   subst e1
   refine ⟨y, ?_, h3, h4, h6⟩
   by_cases hw : n ∈ cw ws
   ·rw [jY ws e (vw cx e o) n hw]; exact h2
   ·rw [cZ ws _ n hw] at h2 ⊢
    rw [h5, ← h2, h1]
 refine ⟨β, SF, H.os, H.tape, H.output, H.size, H.sr, H.sa, H.P0, H.sf, H.mu, H.nd, H.nt, H.pins, fun s sv h => H.bk s sv (by rw [← oV ws e e s rfl]; exact h), fun n ov h => ?_, fun n ov g h hg => ?_, fun n n' ov ov' g hne h h' => ?_⟩
 ·obtain ⟨ov', h1, _, h3, _⟩ := key n ov h
  exact h3 (H.aY n ov' h1)
 ·obtain ⟨ov', h1, h2, _, h4⟩ := key n ov h
  have := H.own n ov' g h1 (h4 g hg)
  rwa [h2] at this
 ·obtain ⟨ov1, h1, _, _, h4⟩ := key n ov h
  obtain ⟨ov2, h2, _, _, h5⟩ := key n' ov' h'
  exact fun q1 q2 => H.inj n n' ov1 ov2 g hne h1 h2 (h4 g q1) (h5 g q2)
theorem P7 (F : Fits P cx c) (H : Rel c e a w) {o : Oper} {ws : List W} (hd : ∀ d, o.dst = some d → c.ok d) (hx : Ex cx o (vw cx e o) ws) (hm : DG cx o e (vw cx e o)) {K : Act → World → Prop}
  (hK : ∀ a w, Rel c (e.aF ws) a w → K a w) : o.wp P a w K Q := by
 obtain ⟨hp, hx⟩ := hx
 obtain ⟨H1, hoc, hfr⟩ := HY (inferInstance : Sub (vw cx e o) e) H hp (fun hc hcr => (hm (by unfold Mk; rw [hc]; exact hcr)).1)
 have S0 : Sub (vw cx e o) e := inferInstance
 have S1 := S0.aF (pre cx.D (vw cx e o) o).2
 unfold DG Mk at hm
 obtain ⟨β, SF, H1, hnw⟩ := H1
 split at hx
 ·rename_i f xs hc
  obtain ⟨m, q, hmade, hmok, hq, hws⟩ := hx
  refine F.calls o _ a w β SF f xs m q _ S1 H1 hd hc hmade hmok (fun h => ?_) hq K Q (fun a w H' => ?_)
  rotate_left
  ·rw [← Env.cA] at H'
   rcases hws with rfl | ⟨pr, hs, rfl⟩
   ·exact hK _ _ H'
   ·exact hK _ _ (H6 hs H')
  rw [hc] at hm
  obtain ⟨⟨d, h1, h1'⟩, h2⟩ := hm ⟨m, hmade, h⟩
  exact ⟨⟨d, h1, fun n hn => h1' n (hoc (by rw [hc]; simp) n hn)⟩, h2 f xs m rfl hmade⟩
 ·rename_i hc
  obtain ⟨ef, hef, hok, rfl⟩ := hx
  rw [hc] at hm
  refine ff.wp (JF F.T H1 hnw (fun d hdd => ⟨hd d hdd, fun hcr => ?_⟩) hef hok) (fun a w H' => hK a w (by rw [Env.cA]; exact H'))
  obtain ⟨⟨d', h1, h2⟩, _⟩ := hm hcr
  rw [hdd] at h1
  cases h1
  exact hfr d hdd h2 hc
theorem DI {ops : Array Oper} {tmps : Array Value} {j s : Nat} (hj : (ops[j]?).bind (·.dst) = some s) (h : tmps.getD s undef = undef) : yielded ops tmps j = none := by
 unfold yielded
 rw [hj]
 simp only [Option.bind_some]
 rw [Array.getD_eq_getD_getElem?] at h
 cases ht : tmps[s]? with
 | none => rfl
 | some v => rw [ht] at h; simp at h; subst h; rfl
theorem yY {ops : Array Oper} {tmps : Array Value} {j s : Nat} {b : Bool} (hj : (ops[j]?).bind (·.dst) = some s) (hs : s < tmps.size) (h : tmps.getD s undef = .bool b) : yielded ops tmps j = some b := by
 unfold yielded
 rw [hj]
 simp only [Option.bind_some]
 rw [Array.getD_eq_getD_getElem?] at h
 rw [Array.getElem?_eq_getElem hs] at h ⊢
 simp at h
 rw [h]
theorem DJ {ops : Array Oper} {o : Oper} {s : Nat} {want : Bool} (h : fp ops.toList o = some (some s, want)) : ∃ j, o.guard = some (j, want) ∧ (ops[j]?).bind (·.dst) = some s := by
 unfold fp at h
 split at h
 ·cases h
 ·rename_i j w hg
  simp only [Option.some.injEq, Prod.mk.injEq] at h
  obtain ⟨h1, rfl⟩ := h
  exact ⟨j, hg, by simpa using h1⟩
theorem Fv {all : List Oper} {o : Oper} (h : fp all o = none) : o.guard = none := by
 unfold fp at h
 split at h
 ·assumption
 ·cases h
theorem JH (F : Fits P cx c) {ops : Array Oper} {i : Nat} {o : Oper} (ho : ops[i]? = some o) (H : Rel c e a w) {ws : List W} (hd : wD cx.N cx.pins o = true) (hs : Ft cx ops.toList o e ws) {K : Act → World → Prop}
  (hK : ∀ a w, Rel c (e.aF ws) a w → K a w) : wpOp P ops Q i K a w := by
 have hd := F.dst hd
 unfold wpOp
 rw [ho]
 simp only
 cases hs with
 | run hg hx hm =>
  have hw : Region.wanted o (yielded ops a.tmps) = true := by
   unfold Region.wanted
   rcases hg with hg | ⟨s, b, f, hg, hsl⟩
   ·rw [Fv hg]
   ·obtain ⟨j, h1, h2⟩ := DJ hg
    obtain ⟨β, SF, H⟩ := H
    obtain ⟨h3, h4⟩ := H.bk _ _ hsl
    have hy : yielded ops a.tmps j = some b := yY h2 (by rw [H.nt]; exact h3) (lW (show aG w.heap c.SA SF β (.val .bool b f) _ from h4))
    rw [h1]
    simp only [hy]
    simp
  rw [if_pos hw]
  exact .inl (P7 F H hd hx hm hK)
 | skip hg hws =>
  subst hws
  have hw : Region.wanted o (yielded ops a.tmps) = false := by
   unfold Region.wanted
   obtain ⟨s, want, hg, hsl⟩ := hg
   obtain ⟨j, h1, h2⟩ := DJ hg
   obtain ⟨β, SF, H⟩ := H
   rw [h1]
   rcases hsl with hsl | ⟨b, f, hsl, hne⟩
   ·obtain ⟨h3, h4⟩ := H.bk _ _ hsl
    have hy : yielded ops a.tmps j = none := DI h2 h4
    simp only [hy]
    rfl
   ·obtain ⟨h3, h4⟩ := H.bk _ _ hsl
    have hy : yielded ops a.tmps j = some b := yY h2 (by rw [H.nt]; exact h3) (lW (show aG w.heap c.SA SF β (.val .bool b f) _ from h4))
    simp only [hy]
    cases b <;> cases want <;> first | rfl | exact absurd rfl hne
  rw [hw]
  simp only [Bool.false_eq_true, if_false]
  refine hK _ _ ?_
  obtain ⟨β, SF, H⟩ := H
  cases hdd : o.dst with
  | none => simp only [so, hdd]; exact ⟨β, SF, H⟩
  | some d =>
   simp only [so, hdd]
   exact ⟨β, SF, H.slot d (hd d hdd) (some .undef) undef fun y hy => by cases hy; exact rfl⟩
theorem uq (F : Fits P cx c) {ops : Array Oper} {R : Type} {r : R} {K : Env → Option R} (hQ : ∀ e', K e' = some r → ∀ a w, Rel c e' a w → Q .normal a w) :
  ∀ (l : List Oper) (k : Nat), ops.toList.drop k = l → ∀ (e : Env) (a : Act) (w : World), BH cx ops.toList l e K = some r → Rel c e a w → wpOps P ops Q (List.range' k l.length) a w
 | [], k, _, e, a, w, h, H => by
  simp only [List.length_nil, List.range'_zero, wpOps]
  exact hQ e h a w H
 | o :: l, k, hl, e, a, w, h, H => by
  rw [List.length_cons, List.range'_succ, wpOps_cons]
  obtain ⟨hd, ws, e', hs, hq, hK⟩ := A3 cx h
  have hk : k < ops.toList.length := by
   rcases Nat.lt_or_ge k ops.toList.length with h | h
   ·exact h
   ·rw [List.drop_eq_nil_of_le h] at hl; cases hl
  have h1 := List.drop_eq_getElem_cons hk
  rw [hl] at h1
  obtain ⟨h2, h3⟩ := List.cons.inj h1
  have ho : ops[k]? = some o := by rw [h2]; simp at hk; simp [hk]
  exact JH F ho H hd hs fun a w H' => uq F hQ l (k + 1) h3.symm e' a w hK (H'.eqv hq)
theorem JI {n i : Nat} : HI n i = true ↔ n.testBit i = true := by
 have : Nat.land (Nat.shiftRight n i) 1 = (n >>> i) &&& 1 := rfl
 simp only [HI, this, Nat.beq_eq, Nat.testBit]
 have h2 : 1 &&& n >>> i = (n >>> i) % 2 := by rw [Nat.and_comm, Nat.and_one_is_mod]
 rw [Nat.and_comm (n >>> i) 1, h2]
 rcases Nat.mod_two_eq_zero_or_one (n >>> i) with h | h <;> simp [h]
theorem H7 (e : Edge) : iE e = Region.binds .any e := by
 unfold iE Region.binds
 cases e.ground <;> rfl
inductive qk (cx : Cx) (all : List Oper) : Env → List Rec → Env → Prop
 | nil {e E : Env} (h : uj e E) : qk cx all e [] E
 | cons {e E : Env} {r : Rec} {R : List Rec} (hs : Ft cx all r.o e r.ws) (h1 : r.rs = kD r.o all) (h2 : r.ro = (vw cx e r.o).aY.map (·.1)) (h : qk cx all (e.aF r.ws) R E) : qk cx all e (r :: R) E
theorem qk.eqv {all : List Oper} : ∀ {R : List Rec} {e e' E : Env}, uj e e' → qk cx all e R E → qk cx all e' R E
 | [], _, _, _, h, .nil h' => .nil (h.symm.trans h')
 | _ :: _, _, _, _, h, .cons hs h1 h2 hc => .cons (hs.eqv cx h) h1 (by rw [h.vw cx]; exact h2) (hc.eqv (h.aF _))
theorem GD {o : Oper} {all : List Oper} {ws : List W} (h1 : sb (ga ws) (kD o all) = true) (h2 : sb (cw ws) ((vw cx e o).aY.map (·.1)) = true) : vw cx (e.aF ws) o = vw cx e o := by
 rw [uk] at h1 h2
 refine yW (fun t ht => cn ws e t fun h => h1 t h ?_) (fun n hn => cZ ws e n fun h => h2 n h hn)
 simp only [kD, List.mem_append]
 exact .inr ht
theorem Ft.aF {o : Oper} {all : List Oper} {ws us : List W} (h1 : sb (ga us) (kD o all) = true) (h2 : sb (cw us) ((vw cx e o).aY.map (·.1)) = true) (h3 : tW o us = true) (h : Ft cx all o e ws) : Ft cx all o (e.aF us) ws := by
 have hv := GD h1 h2
 have hgs : ∀ s b, fp all o = some (some s, b) → (e.aF us).slot s = e.slot s := fun s b hg => cn us e s fun hs => (uk.1 h1) s hs (by simp [kD, hg])
 cases h with
 | run hg hx hm =>
  refine .run (hg.imp id fun ⟨s, b, f, g1, g2⟩ => ⟨s, b, f, g1, by rw [hgs s b g1]; exact g2⟩) (by rw [hv]; exact hx) (by
   rw [hv]
   intro hk
   obtain ⟨⟨d, q1, q2⟩, q3⟩ := hm hk
   refine ⟨⟨d, q1, fun n hn => ?_⟩, q3⟩
   rw [dI] at hn
   rcases hn with hn | ⟨u, hu, hn⟩
   ·exact q2 n hn
   ·exact DF h3 q1 u hu n hn)
 | skip hg hw =>
  obtain ⟨s, want, g1, g2⟩ := hg
  exact .skip ⟨s, want, g1, by rw [hgs s want g1]; exact g2⟩ hw
theorem Ft.NU {o : Oper} {all : List Oper} {ws us : List W} (h1 : sb (ga us) (kD o all) = true) (h2 : sb (cw us) ((vw cx (e.aF us) o).aY.map (·.1)) = true) (h : Ft cx all o (e.aF us) ws) :
  Ft cx all o e ws ∧ vw cx e o = vw cx (e.aF us) o := by
 rw [uk] at h1 h2
 have hv : vw cx e o = vw cx (e.aF us) o := yW (fun t ht => (cn us e t fun h => h1 t h (by simp only [kD, List.mem_append]; exact .inr ht)).symm) (fun n hn => (cZ us e n fun h => h2 n h hn).symm)
 have hgs : ∀ s b, fp all o = some (some s, b) → (e.aF us).slot s = e.slot s := fun s b hg => cn us e s fun hs => h1 s hs (by simp [kD, hg])
 refine ⟨?_, hv⟩
 cases h with
 | run hg hx hm =>
  refine .run (hg.imp id fun ⟨s, b, f, g1, g2⟩ => ⟨s, b, f, g1, by rw [← hgs s b g1]; exact g2⟩) (by rw [hv]; exact hx) (by
   rw [hv]
   intro hk
   obtain ⟨⟨d, q1, q2⟩, q3⟩ := hm hk
   exact ⟨⟨d, q1, fun n hn => q2 n (by rw [dI]; exact .inl hn)⟩, q3⟩)
 | skip hg hw =>
  obtain ⟨s, want, g1, g2⟩ := hg
  exact .skip ⟨s, want, g1, by rw [← hgs s want g1]; exact g2⟩ hw
theorem qk.JJ {all : List Oper} {r : Rec} {B : List Rec} : ∀ {A : List Rec} {e E : Env}, qk cx all e (A ++ r :: B) E → (∀ p ∈ A, indep p r = true) →
  Ft cx all r.o e r.ws ∧ r.rs = kD r.o all ∧ r.ro = (vw cx e r.o).aY.map (·.1) ∧ qk cx all (e.aF r.ws) (A ++ B) E
 | [], _, _, .cons hs h1 h2 hc, _ => ⟨hs, h1, h2, hc⟩
 | p :: A, e, E, .cons hs h1 h2 hc, hi => by
  obtain ⟨g1, g2, g3, g4⟩ := hc.JJ (fun q hq => hi q (List.mem_cons_of_mem _ hq))
  have hp := hi p (List.mem_cons_self ..)
  simp only [indep, Bool.and_eq_true] at hp
  obtain ⟨⟨i1, i2, i3, i4⟩, ⟨i5, i6⟩, i7, i8⟩ := hp
  rw [g2] at i1
  rw [g3] at i2
  rw [h1] at i3
  rw [h2] at i4
  obtain ⟨k1, k2⟩ := g1.NU i1 i2
  have hsw := uj.comm e i5 i6
  have hv := GD (e := e) i3 i4
  exact ⟨k1, g2, by rw [k2]; exact g3, .cons (hs.aF i3 i4 i7) h1 (by rw [hv]; exact h2) (g4.eqv hsw)⟩
end
end Go.Px
namespace Go.Px
open Go
variable {P : Program} {cx : Cx} {c : Ctx} {Q : Exit → Act → World → Prop}
inductive Good (cx : Cx) : List Rec → List Rec → Prop
 | nil {recs : List Rec} : Good cx recs []
 | cons {recs : List Rec} {r : Rec} {R : List Rec} (he : xN recs r.o = true) (hcl : r.cl = closure recs r.o.after.toList) (hp : ∀ p ∈ recs, HI r.cl p.i = true ∨ indep p r = true) (hd : wD cx.N cx.pins r.o = true)
   (h : Good cx (r :: recs) R) : Good cx recs (r :: R)
theorem ur {R : Type} {all : List Oper} {K : Env → Option R} {r : R} : ∀ {l : List Oper} {i : Nat} {recs : List Rec} {e : Env}, tX cx all l i recs e K = some r →
  ∃ L E, qk cx all e L E ∧ Good cx recs L ∧ L.map (·.o) = l ∧ L.map (·.i) = List.range' i l.length ∧ K E = some r
 | [], i, recs, e, h => ⟨[], e, .nil (.refl e), .nil, rfl, rfl, h⟩
 | o :: l, i, recs, e, h => by
  simp only [tX, Bool.cond_eq_ite] at h
  split at h
  ·rename_i hed
   obtain ⟨hd, ws, e', hs, hq, h⟩ := A3 cx h
   split at h
   ·rename_i hall
    obtain ⟨L, E, h1, h2, h3, h4, h5⟩ := ur h
    refine ⟨_ :: L, E, .cons hs rfl rfl (h1.eqv hq.symm), .cons hed rfl (fun p hp => ?_) hd h2, by rw [List.map_cons, h3], by rw [List.map_cons, h4]; rfl, h5⟩
    have := List.all_eq_true.1 hall p hp
    simpa only [Bool.or_eq_true] using this
   ·cases h
  ·cases h
theorem Good.at_ {r : Rec} {B : List Rec} : ∀ {A recs : List Rec}, Good cx recs (A ++ r :: B) →
  xN (A.reverse ++ recs) r.o = true ∧ r.cl = closure (A.reverse ++ recs) r.o.after.toList ∧ (∀ p ∈ A.reverse ++ recs, HI r.cl p.i = true ∨ indep p r = true) ∧ wD cx.N cx.pins r.o = true
 | [], _, .cons he hcl hp hd _ => ⟨he, hcl, hp, hd⟩
 | q :: A, recs, .cons _ _ _ _ h => by
  have := h.at_
  simpa using this
theorem DK {j k : Nat} : ∀ {recs : List Rec}, (HJ recs k).testBit j = true → ∃ q ∈ recs, q.i = k ∧ q.cl.testBit j = true
 | [], h => by simp [HJ] at h
 | q :: l, h => by
  simp only [HJ, Bool.cond_eq_ite, Nat.beq_eq] at h
  split at h
  ·rename_i hk; exact ⟨q, List.mem_cons_self .., hk, h⟩
  ·obtain ⟨q', h1, h2⟩ := DK h; exact ⟨q', List.mem_cons_of_mem _ h1, h2⟩
theorem ql {recs : List Rec} {j : Nat} : ∀ {es : List Edge}, (closure recs es).testBit j = true → ∃ e ∈ es, iE e = true ∧ (j = e.on ∨ ∃ q ∈ recs, q.i = e.on ∧ q.cl.testBit j = true)
 | [], h => by simp [closure] at h
 | e :: es, h => by
  simp only [closure, Bool.cond_eq_ite] at h
  split at h
  ·rename_i hb
   have h' : ((2 ^ e.on ||| HJ recs e.on) ||| closure recs es).testBit j = true := h
   rw [Nat.testBit_or, Nat.testBit_or, Bool.or_eq_true, Bool.or_eq_true] at h'
   rcases h' with (h | h) | h
   ·rw [Nat.testBit_two_pow] at h
    simp at h
    exact ⟨e, List.mem_cons_self .., hb, .inl h.symm⟩
   ·exact ⟨e, List.mem_cons_self .., hb, .inr (DK h)⟩
   ·obtain ⟨e', h1, h2⟩ := ql h; exact ⟨e', List.mem_cons_of_mem _ h1, h2⟩
  ·obtain ⟨e', h1, h2⟩ := ql h; exact ⟨e', List.mem_cons_of_mem _ h1, h2⟩
theorem JK {recs : List Rec} {o : Oper} (h : xN recs o = true) {e : Edge} (he : e ∈ o.after.toList) (hb : iE e = true) : ∃ p ∈ recs, p.i = e.on := by
 have := List.all_eq_true.1 h e he
 rw [hb] at this
 simp only [Bool.not_true, Bool.false_or, List.any_eq_true, Nat.beq_eq] at this
 exact this
section
variable {ops : Array Oper} {R0 : List Rec} (hG : Good cx [] R0) (hi : R0.map (·.i) = List.range' 0 ops.size) (ho : R0.map (·.o) = ops.toList)
include hi in
theorem xU : R0.Pairwise fun p q => p.i < q.i := by
 have : (R0.map (·.i)).Pairwise (· < ·) := by rw [hi]; exact List.pairwise_lt_range'
 rwa [List.pairwise_map] at this
theorem Lk {l : List Rec} (hs : l.Pairwise fun p q => p.i < q.i) {p q : Rec} (hp : p ∈ l) (hq : q ∈ l) (h : p.i = q.i) : p = q := by
 induction l with
 | nil => cases hp
 | cons x l ih =>
  rw [List.pairwise_cons] at hs
  rcases List.mem_cons.1 hp with h1 | h1
  ·rcases List.mem_cons.1 hq with h2 | h2
   ·rw [h1, h2]
   ·have := hs.1 q h2; rw [h1] at h; omega
  ·rcases List.mem_cons.1 hq with h2 | h2
   ·have := hs.1 p h1; rw [h2] at h; omega
   ·exact ih hs.2 h1 h2
include hi ho in
theorem DL {r : Rec} (hr : r ∈ R0) : ops[r.i]? = some r.o ∧ r.i < ops.size := by
 obtain ⟨k, hk, rfl⟩ := List.mem_iff_getElem.1 hr
 have h1 : (R0.map (·.i))[k]? = some R0[k].i := by simp [hk]
 have h2 : (R0.map (·.o))[k]? = some R0[k].o := by simp [hk]
 rw [hi] at h1
 rw [ho] at h2
 have hlen : R0.length = ops.size := by have := congrArg List.length hi; simpa using this
 rw [List.getElem?_range' (by omega)] at h1
 simp at h1
 rw [← h1]
 simp at h2
 exact ⟨h2, by omega⟩
include hG hi in
theorem Ll {r p : Rec} (hr : r ∈ R0) (hp : p ∈ R0) (hlt : p.i < r.i) : HI r.cl p.i = true ∨ indep p r = true := by
 obtain ⟨A, B, rfl⟩ := List.append_of_mem hr
 have hs := xU hi
 obtain ⟨_, _, h3, _⟩ := hG.at_
 refine h3 p ?_
 simp only [List.append_nil, List.mem_reverse]
 rcases List.mem_append.1 hp with h | h
 ·exact h
 ·rcases List.mem_cons.1 h with rfl | h
  ·omega
  ·rw [List.pairwise_append, List.pairwise_cons] at hs
   have := hs.2.1.1 p h
   omega
include hG in
theorem P8 {r : Rec} (hr : r ∈ R0) {j : Nat} (h : r.cl.testBit j = true) : ∃ e ∈ r.o.after.toList, iE e = true ∧ (j = e.on ∨ ∃ q ∈ R0, q.i = e.on ∧ q.cl.testBit j = true) := by
 obtain ⟨A, B, rfl⟩ := List.append_of_mem hr
 obtain ⟨_, h2, _, _⟩ := hG.at_
 rw [h2] at h
 obtain ⟨e, h3, h4, h5⟩ := ql h
 refine ⟨e, h3, h4, h5.imp id fun ⟨q, h6, h7⟩ => ⟨q, ?_, h7⟩⟩
 simp only [List.append_nil, List.mem_reverse] at h6
 exact List.mem_append_left _ h6
include hG hi in
theorem GF {r : Rec} (hr : r ∈ R0) {e : Edge} (he : e ∈ r.o.after.toList) (hb : iE e = true) : ∃ p ∈ R0, p.i = e.on ∧ p.i < r.i := by
 obtain ⟨A, B, rfl⟩ := List.append_of_mem hr
 have hs := xU hi
 obtain ⟨h1, _, _, _⟩ := hG.at_
 obtain ⟨p, h2, h3⟩ := JK h1 he hb
 simp only [List.append_nil, List.mem_reverse] at h2
 rw [List.pairwise_append] at hs
 exact ⟨p, List.mem_append_left _ h2, h3, hs.2.2 p h2 r (List.mem_cons_self ..)⟩
include hG in
theorem NV {r : Rec} (hr : r ∈ R0) : wD cx.N cx.pins r.o = true := by
 obtain ⟨A, B, rfl⟩ := List.append_of_mem hr
 exact hG.at_.2.2.2
theorem rG (l : Array Bool) (i : Nat) (h : i < l.size) (b : Bool) : l.getD i b = l[i] := by simp [h]
theorem JL (l : Array Bool) (i k : Nat) (h : k < l.size) : (l.setIfInBounds i true).getD k true = true ↔ k = i ∨ l.getD k true = true := by
 rw [rG _ _ (by simpa using h), rG _ _ h, Array.getElem_setIfInBounds (by simpa using h)]
 by_cases hk : i = k
 ·subst hk; simp
 ·simp [hk, Ne.symm hk]
theorem vM {listed : Array Bool} {i : Nat} : i ∈ Region.ready .any ops listed ↔ i < ops.size ∧ listed.getD i true = false ∧ ∃ o, ops[i]? = some o ∧ ∀ e ∈ o.after.toList, iE e = true → listed.getD e.on false = true := by
 simp only [Region.ready, List.mem_filter, List.mem_range, Bool.and_eq_true, Bool.not_eq_true']
 refine and_congr_right fun hlt => and_congr_right fun _ => ?_
 rw [Array.getElem?_eq_getElem hlt]
 simp only [Option.map_some, Option.getD_some, Option.some.injEq, exists_eq_left', Array.all_eq_true_iff_forall_mem, Array.mem_toList_iff]
 refine forall_congr' fun e => forall_congr' fun he => ?_
 rw [H7]
 cases Region.binds .any e <;> simp
include hG hi ho in
theorem H8 (F : Fits P cx c) {E : Env} (hQ : ∀ a w, Rel c E a w → Q .normal a w) : ∀ (fuel : Nat) (R : List Rec) (listed : Array Bool) (e : Env) (a : Act) (w : World), R.Sublist R0 → R.length = fuel →
  listed.size = ops.size → (∀ i, i < ops.size → (listed.getD i true = true ↔ i ∉ R.map (·.i))) → (∀ r ∈ R0, r.i ∉ R.map (·.i) → ∀ j, r.cl.testBit j = true → j ∉ R.map (·.i)) →
  qk cx ops.toList e R E → Rel c e a w → wpAny P .any ops Q fuel listed a w := by
 have hnone : ∀ (R : List Rec) (listed : Array Bool), R = [] → (∀ i, i < ops.size → (listed.getD i true = true ↔ i ∉ R.map (·.i))) → Region.ready .any ops listed = [] := by
  rintro R listed rfl hl
  rw [List.eq_nil_iff_forall_not_mem]
  intro i hir
  obtain ⟨h1, h2, _⟩ := vM.1 hir
  have := (hl i h1).2 (by simp)
  rw [this] at h2
  cases h2
 intro fuel
 induction fuel with
 | zero =>
  intro R listed e a w hsub hlen hsz hl hcl hch H
  have hR : R = [] := by simpa using hlen
  refine ⟨hnone R listed hR hl, ?_⟩
  subst hR
  cases hch with
  | nil h => exact hQ a w (H.eqv h)
 | succ fuel ih =>
  intro R listed e a w hsub hlen hsz hl hcl hch H
  have hsort : R.Pairwise fun p q => p.i < q.i := (xU hi).sublist hsub
  have hget : ∀ k, k < ops.size → listed.getD k false = listed.getD k true := fun k hk => by rw [rG _ _ (by omega), rG _ _ (by omega)]
  refine ⟨fun hr => ?_, fun i hir => ?_⟩
  ·exfalso
   cases R with
   | nil => simp at hlen
   | cons r B =>
    have hr0 : r ∈ R0 := hsub.subset (List.mem_cons_self ..)
    obtain ⟨h1, h2⟩ := DL hi ho hr0
    have : r.i ∈ Region.ready .any ops listed := by
     refine vM.2 ⟨h2, ?_, r.o, h1, fun ed hed hb => ?_⟩
     ·cases hg : listed.getD r.i true with
      | false => rfl
      | true => exact absurd (List.mem_map.2 ⟨r, List.mem_cons_self .., rfl⟩) ((hl _ h2).1 hg)
     ·obtain ⟨p, hp, hpi, hlt⟩ := GF hG hi hr0 hed hb
      obtain ⟨_, hps⟩ := DL hi ho hp
      rw [← hpi, hget _ hps, hl _ hps]
      intro hm
      obtain ⟨q, hq, hqi⟩ := List.mem_map.1 hm
      rcases List.mem_cons.1 hq with rfl | hq
      ·omega
      ·have := (List.pairwise_cons.1 hsort).1 q hq
       omega
    rw [hr] at this
    cases this
  ·obtain ⟨hlt, hnl, o, ho', hed⟩ := vM.1 hir
   have hmem : i ∈ R.map (·.i) := by
    by_cases hm : i ∈ R.map (·.i)
    ·exact hm
    ·rw [(hl i hlt).2 hm] at hnl; cases hnl
   obtain ⟨r, hrR, rfl⟩ := List.mem_map.1 hmem
   have hr0 : r ∈ R0 := hsub.subset hrR
   have hbits : ∀ j, r.cl.testBit j = true → j ∉ R.map (·.i) := by
    intro j hj
    obtain ⟨ed, h1, h2, h3⟩ := P8 hG hr0 hj
    have hro : o = r.o := Option.some.inj (ho'.symm.trans (DL hi ho hr0).1)
    have h4 := hed ed (by rw [hro]; exact h1) h2
    obtain ⟨p, hp, hpi, _⟩ := GF hG hi hr0 h1 h2
    have hps := (DL hi ho hp).2
    rw [← hpi, hget _ hps, hl _ hps] at h4
    rcases h3 with rfl | ⟨q, hq, hqi, hqb⟩
    ·rw [← hpi]; exact h4
    ·exact hcl q hq (by rw [hqi, ← hpi]; exact h4) j hqb
   obtain ⟨A, B, rfl⟩ := List.append_of_mem hrR
   have hA : ∀ p ∈ A, indep p r = true := by
    intro p hp
    have hlt' : p.i < r.i := by
     rw [List.pairwise_append] at hsort
     exact hsort.2.2 p hp r (List.mem_cons_self ..)
    rcases Ll hG hi hr0 (hsub.subset (List.mem_append_left _ hp)) hlt' with h | h
    ·exact absurd (List.mem_map.2 ⟨p, List.mem_append_left _ hp, rfl⟩) (hbits _ (JI.1 h))
    ·exact h
   obtain ⟨g1, _, _, g4⟩ := hch.JJ hA
   have hni : r.i ∉ (A ++ B).map (·.i) := by
    intro hm
    obtain ⟨q, hq, hqi⟩ := List.mem_map.1 hm
    rw [List.pairwise_append, List.pairwise_cons] at hsort
    rcases List.mem_append.1 hq with h | h
    ·have := hsort.2.2 q h r (List.mem_cons_self ..); omega
    ·have := hsort.2.1.1 q h; omega
   have hmap : ∀ k, k ∉ (A ++ B).map (·.i) ↔ k = r.i ∨ k ∉ (A ++ r :: B).map (·.i) := by
    intro k
    simp only [List.map_append, List.map_cons, List.mem_append, List.mem_cons, not_or] at hni ⊢
    constructor
    ·intro h
     by_cases hk : k = r.i
     ·exact .inl hk
     ·exact .inr ⟨h.1, hk, h.2⟩
    ·rintro (rfl | h)
     ·exact hni
     ·exact ⟨h.1, h.2.2⟩
   refine JH F (DL hi ho hr0).1 H (NV hG hr0) g1 fun a' w' H' => ?_
   refine ih (A ++ B) _ _ a' w' ?_ ?_ (by simpa using hsz) (fun k hk => ?_) (fun q hq hqi j hj => ?_) g4 H'
   ·exact (List.Sublist.append (List.Sublist.refl A) (List.sublist_cons_self r B)).trans hsub
   ·simp at hlen ⊢; omega
   ·rw [JL _ _ _ (by omega), hl k hk, hmap]
   ·rw [hmap] at hqi ⊢
    rcases hqi with h | h
    ·have : q = r := Lk (xU hi) hq hr0 h
     subst this
     exact .inr (hbits j hj)
    ·exact .inr (hcl q hq h j hj)
end
theorem BT (F : Fits P cx c) (hm : P.follows .mixedOrders = true) {id : Nat} {ops : Array Oper} {draw : Bool} {R : Type} {r : R} {K : Env → Option R} {e : Env} {a : Act} {w : World}
  (h : cond draw (tX cx ops.toList ops.toList 0 [] e K) (BH cx ops.toList ops.toList e K) = some r) (hQ : ∀ e', K e' = some r → ∀ a w, Rel c e' a w → Q .normal a w) (H : Rel c e a w) :
  (Code.region id ops draw).wp P Q a w := by
 cases draw with
 | false =>
  refine wp_region ?_
  have := uq F hQ ops.toList 0 (by simp) e a w h H
  rwa [Array.length_toList, ← List.range_eq_range'] at this
 | true =>
  obtain ⟨L, E, h1, h2, h3, h4, h5⟩ := ur h
  refine wp_region_any hm ?_
  rw [Array.length_toList] at h4
  have hlen : L.length = ops.size := by have := congrArg List.length h4; simpa using this
  refine H8 h2 h4 h3 F (hQ E h5) ops.size L _ e a _ (List.Sublist.refl L) hlen (by simp) (fun i hi => ?_) (fun r hr hni => ?_) h1 ?_
  ·simp [hi, h4]
  ·exact absurd (List.mem_map.2 ⟨r, hr, rfl⟩) hni
  ·obtain ⟨β, SF, H⟩ := H
   exact ⟨β, SF, H.drew _⟩
end Go.Px
namespace Go.Px
open Go
section
variable {c : Ctx} {β : Nat → Value} {SF : Loc → Prop} {e : Env} {a : Act} {w : World}
theorem sx {e : Env} {o : Nat} (h : lJ e o = true) : ¬ ua e o := by
 simp only [lJ, Bool.and_eq_true, Bool.not_eq_true', List.any_eq_false, Bool.or_eq_true, not_or, Bool.not_eq_true, Nat.beq_eq] at h
 intro ho
 rcases ho.QF with ⟨p, hp, hn⟩ | ⟨p, hp, rfl | hn⟩
 ·exact h.2 p hp o hn rfl
 ·exact (h.1 p hp).1 rfl
 ·exact (h.1 p hp).2 o hn rfl
structure Ext (e : Env) (β : Nat → Value) (SF : Loc → Prop) (e' : Env) (β' : Nat → Value) (SF' : Loc → Prop) : Prop where
 eq : ∀ n, ua e n → β' n = β n
 sf : ∀ k, SF k → SF' k
 HW : ∀ n, ua e n → ua e' n
 bk : ∀ s, e'.slot s = e.slot s
 boxes : ∀ o cs st, e.obj o = some (.box cs st) → e'.obj o = some (.box cs st)
theorem Ext.refl : Ext e β SF e β SF := ⟨fun _ _ => rfl, fun _ h => h, fun _ h => h, fun _ => rfl, fun _ _ _ h => h⟩
theorem Ext.trans {e' e'' : Env} {β' β'' : Nat → Value} {SF' SF'' : Loc → Prop} (h : Ext e β SF e' β' SF') (h' : Ext e' β' SF' e'' β'' SF'') : Ext e β SF e'' β'' SF'' :=
 ⟨fun n hn => (h'.eq n (h.HW n hn)).trans (h.eq n hn), fun k hk => h'.sf k (h.sf k hk), fun n hn => h'.HW n (h.HW n hn), fun s => (h'.bk s).trans (h.bk s), fun o cs st ho => h'.boxes o cs st (h.boxes o cs st ho)⟩
theorem Ext.cell {h : Array Obj} {SA : Nat → Prop} {e' : Env} {β' : Nat → Value} {SF' : Loc → Prop} (E : Ext e β SF e' β' SF') {cl : Cell} {v : Value} (hn : ∀ n ∈ aq cl, ua e n) (hc : aG h SA SF β cl v) : aG h SA SF' β' cl v :=
 hc.mono E.sf (fun _ _ => rfl) fun n hn' => E.eq n (hn n hn')
theorem Ext.cells {h : Array Obj} {SA : Nat → Prop} {e' : Env} {β' : Nat → Value} {SF' : Loc → Prop} (E : Ext e β SF e' β' SF') {cs : List Cell} {vs : List Value} (hn : ∀ n ∈ cs.flatMap aq, ua e n) (hc : ao h SA SF β cs vs) : ao h SA SF' β' cs vs :=
 hc.mono E.sf (fun _ _ => rfl) fun n hn' => E.eq n (hn n hn')
theorem Ext.row {o : Nat} {t t' : Ty} {et et' : Nat} {xs : List t.den} {xs' : List t'.den} {f f' : Bool} {st st' : Nat} {SF' : Loc → Prop} (ho : e.obj o = some (.row t et xs f st)) (hs : ∀ k, SF k → SF' k) :
  Ext e β SF (e.put (.obj o (some (.row t' et' xs' f' st')))) β SF' := by
 refine ⟨fun _ _ => rfl, hs, fun n hn => ?_, fun _ => rfl, fun o' cs st h => ?_⟩
 ·rcases hn with ⟨s, sv, h1, h2⟩ | ⟨m, ov, h1, h2⟩
  ·exact .inl ⟨s, sv, h1, h2⟩
  ·by_cases hm : o = m
   ·subst hm
    rw [ho] at h1
    cases h1
    simp only [OV.names, List.not_mem_nil, or_false] at h2
    exact .inr ⟨o, _, by rw [ai, if_pos rfl], .inl h2⟩
   ·exact .inr ⟨m, ov, by rw [ai, if_neg hm]; exact h1, h2⟩
 ·rw [ai]
  split
  ·subst_vars
   rw [ho] at h
   cases h
  ·exact h
theorem uu {w : World} {SA : Nat → Prop} {o : Nat} {t : Ty} {et : Nat} {xs : List t.den} {f f' : Bool} {st st' : Nat} (hf : f = false → f' = false) (h : cS SA SF β w o (.row t et xs f st)) : cS SA SF β w o (.row t et xs f' st') := by
 obtain ⟨vs, h1, h2⟩ := h
 exact ⟨vs, h1, h2.mono fun _ _ hr => bm.mono (S2.xq f f' hf) (fun _ _ => rfl) hr⟩
theorem uv {h : Array Obj} {SA : Nat → Prop} {t : Ty} {x : t.den} {f f' : Bool} {v : Value} (hf : f = false → f' = false) (hc : aG h SA SF β (.val t x f) v) : aG h SA SF β (.val t x f') v :=
 bm.mono (S2.xq f f' hf) (fun _ _ => rfl) hc
theorem A4 {h : Array Obj} {SA : Nat → Prop} {t : Ty} {x : t.den} {f f' : Bool} {v : Value} (hf : f = false → f' = false) (hc : aG h SA SF β (.lj t x f) v) : aG h SA SF β (.lj t x f') v := by
 obtain ⟨g, off, arr, et, fz, h1, h2, h3, h4, h5⟩ := hc
 exact ⟨g, off, arr, et, fz, h1, S2.xq f f' hf _ h2, h3, h4, bm.mono (S2.xq f f' hf) (fun _ _ => rfl) h5⟩
theorem Fw (H : aC c β SF e a w) {o et lo n st : Nat} {t : Ty} {xs : List t.den} {f : Bool} {v : Value} {S' : Loc → Prop} (ho : e.obj o = some (.row t et xs f st)) (hv : aG w.heap c.SA SF β (.part o t lo n) v)
  (h1 : ∀ k, SF k → S' k) (h2 : f = false → ∀ k : Nat, c.SA k → S' k) (h3 : ∀ k : Nat, bo (β o) = some k → S' k) : bm w.heap S' (.slice t) [v] ((xs.take (lo + n)).drop lo) := by
 have hm : ∀ {ys : List t.den} {vs : List Value}, b7 (bm w.heap (S2 c.SA SF f) t) ys vs → b7 (bm w.heap S' t) ys vs := fun hc => hc.mono fun _ _ hr => bm.mono (fun l hk => hk.elim (h1 l) fun ⟨p, q⟩ => match l, q with | .b k, q => h2 p k q | .m .., q => q.elim) (fun _ _ => rfl) hr
 obtain ⟨A, N, C, hβ, k1, k2, hv⟩ := hv
 obtain ⟨vs, ho, hch⟩ := H.aY _ _ ho
 rw [hβ] at ho
 rcases ho with ⟨g1, ⟨g2, g3⟩ | ⟨g, b0, cap, cur, g2, _, g3, g4, g5, g6, g7⟩⟩
 ·cases g2
  refine ⟨_, _, _, by rw [hv], ?_, by omega, .inl (by omega)⟩
  refine (rC (α := t.den) xs lo (lo + n)).trans ?_
  omega
 ·cases g2
  refine ⟨_, _, _, by rw [hv], ?_, by omega, ?_⟩
  ·refine (rC (α := t.den) xs lo (lo + n)).trans ?_
   omega
  ·by_cases h0 : n = 0
   ·exact .inl h0
   ·rw [if_neg (by omega)]
    refine .inr ⟨g, b0 + lo * t.size, cur, et, (0, 0), ?_, h3 g (by rw [hβ]; rfl), g3, ?_, ?_⟩
    ·show some ((⟨g, b0, none⟩ : Addr).add (lo * t.size)) = _
     rw [Addr.add_mid]
    ·rw [Nat.add_assoc, ← Nat.add_mul]
     exact Nat.le_trans (Nat.add_le_add_left (Nat.mul_le_mul_right _ (by omega)) _) g6
    ·have hc := hm ((hch.take (lo + n)).drop lo)
     have e1 : ((cur.toList.drop b0).take ((lo + n) * t.size)).drop (lo * t.size) = (cur.toList.drop (b0 + lo * t.size)).take (n * t.size) := by
      rw [List.drop_take, ← Nat.sub_mul, show lo + n - lo = n by omega, List.drop_drop]
     rw [← g7, List.take_take, Nat.min_eq_left (Nat.mul_le_mul_right _ k1), e1] at hc
     exact hc
def Aligned (c : Ctx) (a : Act) (w : World) (e : Env) (β : Nat → Value) (SF : Loc → Prop) (r : Cell × Env) (v : Value) : Prop :=
 ∃ β' SF', aC c β' SF' r.2 a w ∧ Ext e β SF r.2 β' SF' ∧ aG w.heap c.SA SF' β' r.1 v ∧ ∀ n ∈ aq r.1, ua r.2 n
theorem pw (H : aC c β SF e a w) (M : Env) (k : Nat) (m : Cell) {cl : Cell} {v : Value} (hc : aG w.heap c.SA SF β cl v) (hn : ∀ n ∈ aq cl, ua e n) : Aligned c a w e β SF (nW M k m cl e) v := by
 have hid : ∀ cl', aG w.heap c.SA SF β cl' v → (∀ n ∈ aq cl', ua e n) → Aligned c a w e β SF (cl', e) v := fun cl' h h' => ⟨β, SF, H, .refl, h, h'⟩
 unfold nW
 split
 ·rename_i mo
  split
  ·rename_i t et _ _ _ _
   cases hf : lJ e k with
   | false => exact hid _ hc hn
   | true =>
    have hk := sx hf
    have hv : v = .slice none 0 0 := hc
    have hnew := H.new (w' := w) (v := .slice none 0 0) (ov := .row t et ([] : List t.den) true 0) hk (fun _ => False) rfl rfl rfl (Nat.le_refl _) (fun _ _ _ => rfl) (fun _ h => h.elim) (fun _ _ _ _ _ h => h)
     ⟨[], by rw [bT]; exact World.dW _ _ _ _, rfl⟩ (fun g hg => by cases hg)
    refine ⟨_, _, hnew, ⟨fun n hn => ny _ fun h => hk (h ▸ hn), fun _ h => h, fun n hn => ?_, fun _ => rfl, fun o cs st h => ?_⟩, ⟨by rw [hv, bT], _, _, _, hv⟩, fun n hn => ?_⟩
    ·rcases hn with ⟨s, sv, h1, h2⟩ | ⟨m, ov, h1, h2⟩
     ·exact .inl ⟨s, sv, h1, h2⟩
     ·refine .inr ⟨m, ov, ?_, h2⟩
      simp only [cond_true, ai]
      rw [if_neg]
      ·exact h1
      ·rintro rfl
       exact hk (.inr ⟨_, _, h1, .inl rfl⟩)
    ·simp only [cond_true, ai]
     rw [if_neg]
     ·exact h
     ·rintro rfl
      exact hk (.inr ⟨_, _, h, .inl rfl⟩)
    ·simp only [cond_true, aq, List.mem_singleton] at hn
     subst hn
     exact .inr ⟨_, _, (ai ..).trans (if_pos rfl), .inl rfl⟩
  ·exact hid _ hc hn
 ·rename_i t _ f
  have hv : v = .slice none 0 0 := hc
  exact hid _ (by subst hv; exact ⟨none, 0, 0, rfl, rfl, Nat.le_refl _, .inl rfl⟩) (fun n hn => by cases hn)
 ·rename_i et t _ _
  have hv : v = .slice none 0 0 := hc
  exact hid _ (by subst hv; exact ⟨none, 0, 0, rfl, rfl, Nat.le_refl _, .inl ⟨rfl, rfl, fun _ => rfl⟩⟩) (fun n hn => by cases hn)
 ·rename_i o
  unfold ld
  simp only
  split
  ·rename_i t' et' xs f' st ho
   split
   ·rename_i bs hbs
    split
    ·rename_i hcc
     simp only [Bool.and_eq_true, Bool.or_eq_true, Bool.not_eq_true', Nat.beq_eq] at hcc
     have hm := lK hbs
     obtain ⟨h1, h2⟩ := H.JG ho hm hcc.1 hcc.2
     refine ⟨β, _, h1, ⟨fun _ _ => rfl, fun _ h => .inl h, fun n hn => ?_, fun _ => rfl, fun o' cs st h => ?_⟩, h2 v hc, fun n hn => by simp [aq] at hn⟩
     ·rcases hn with ⟨s, sv, q1, q2⟩ | ⟨m, ov, q1, q2⟩
      ·exact .inl ⟨s, sv, q1, q2⟩
      ·by_cases p1 : an et' = m
       ·subst p1
        rw [hm] at q1
        cases q1
        simp only [OV.names, List.not_mem_nil, or_false] at q2
        exact .inr ⟨_, _, (ai ..).trans (if_pos rfl), .inl q2⟩
       ·by_cases p2 : o = m
        ·subst p2
         rw [ho] at q1
         cases q1
         simp only [OV.names, List.not_mem_nil, or_false] at q2
         exact .inr ⟨_, _, (ai ..).trans ((if_neg p1).trans ((ai ..).trans (if_pos rfl))), .inl q2⟩
        ·exact .inr ⟨m, ov, (ai ..).trans ((if_neg p1).trans ((ai ..).trans ((if_neg p2).trans q1))), q2⟩
     ·refine (ai ..).trans ((if_neg fun p1 => ?_).trans ((ai ..).trans ((if_neg fun p2 => ?_).trans h)))
      ·rw [← p1, hm] at h; cases h
      ·rw [← p2, ho] at h; cases h
    ·exact hid _ hc hn
   ·exact hid _ hc hn
  ·exact hid _ hc hn
 ·rename_i t _ f o
  split
  ·rename_i t' et xs f' ho
   exact ⟨_, _, H.freeze ho, .row ho fz.sub, uv (f := f') (fun h => by rw [h]; rfl) (im (H.aY _ _ ho) fz.sub (fun g hg => .inr hg) hc), fun n hn => by cases hn⟩
  ·rename_i t' et xs f' ho
   refine hid _ (uv (f := f') (fun h => by rw [h]; rfl) (im (H.aY _ _ ho) (fun _ h => h) (fun g hg => ?_) hc)) (fun n hn => by cases hn)
   rcases (H.own _ _ g ho hg).2 with h | h | h
   ·exact absurd h.1 (by simp [OV.st])
   ·exact h.2
   ·exact absurd h.1 (by simp [OV.st])
  ·exact hid _ hc hn
 ·exact hid _ (uv (fun h => by cases h) hc) (fun n hn => by cases hn)
 ·exact hid _ (A4 (fun h => by cases h) hc) (fun n hn => by cases hn)
 ·rename_i mo o
  split
  ·rename_i f st t et xs f' st' _ ho
   have hocc : ∀ x : OV, ∀ n ∈ aq (.row o), ua (e.put (.obj o (some x))) n := fun x n hn => by
    simp only [aq, List.mem_singleton] at hn
    subst hn
    exact .inr ⟨_, _, by rw [ai, if_pos rfl], .inl rfl⟩
   split
   ·have h1 := H.freeze ho
    have h2 := h1.qe (o := o) (ov := .row t et xs f' 1) (ov' := .row t et xs (f' && f) 1) (by rw [ai, if_pos rfl]) (.inl rfl) (uu (f := f') (fun h => by rw [h]; rfl) (h1.aY _ _ (by rw [ai, if_pos rfl])))
    refine ⟨_, _, h2.eqv (e' := e.put (.obj o (some (.row t et xs (f' && f) 1)))) (fun s => rfl) (fun n => ?_), .row ho fz.sub, ?_, hocc _⟩
    ·simp only [ai]
     split <;> rfl
    ·exact hc.mono fz.sub (fun _ _ => rfl) (fun _ _ => rfl)
   ·exact ⟨_, _, H.qe ho (ov' := .row t et xs (f' && f) 2) (.inr ⟨rfl, rfl⟩) (uu (f := f') (fun h => by rw [h]; rfl) (H.aY _ _ ho)), .row ho fun _ h => h, hc, hocc _⟩
   ·cases hb : (f' && !f) with
    | false => exact hid _ hc hn
    | true =>
     simp only [Bool.and_eq_true, Bool.not_eq_true'] at hb
     obtain ⟨rfl, rfl⟩ := hb
     exact ⟨_, _, H.qe ho (ov' := .row t et xs false _) (.inl rfl) (uu (fun _ => rfl) (H.aY _ _ ho)), .row ho fun _ h => h, hc, hocc _⟩
  ·exact hid _ hc hn
 ·rename_i t1 _ f o t lo n
  split
  ·rename_i t' et xs f' st ho
   cases hb : t'.beq t with
   | false => exact hid _ hc hn
   | true =>
    have hb' := Ty.eq_of_beq hb
    subst hb'
    have hz : ∀ (S0 : Loc → Prop), (∀ k, SF k → S0 k) → (∀ k : Nat, bo (β o) = some k → S0 k) → aG w.heap c.SA S0 β (.val (.slice t') ((xs.take (lo + n)).drop lo) (f' && f)) v := fun S0 h1 h2 =>
     Fw H ho hc (fun k hk => .inl (h1 k hk)) (fun hf k hk => .inr ⟨by rw [hf]; rfl, hk⟩) (fun k hk => .inl (h2 k hk))
    simp only [cond_true]
    split
    ·exact ⟨_, _, H.freeze ho, .row ho fz.sub, hz _ fz.sub (fun g hg => .inr hg), fun n hn => by cases hn⟩
    ·refine hid _ (hz _ (fun _ h => h) (fun g hg => ?_)) (fun n hn => by cases hn)
     rcases (H.own _ _ g ho hg).2 with h | h | h
     ·exact absurd h.1 (by simp [OV.st])
     ·exact h.2
     ·exact absurd h.1 (by simp [OV.st])
    ·exact hid _ hc hn
  ·exact hid _ hc hn
 ·rename_i mo o t lo n
  split
  ·rename_i f st t' et xs f' st' _ ho
   cases hb : (lJ e k && (t.beq t' && loose st')) with
   | false => exact hid _ hc hn
   | true =>
    simp only [Bool.and_eq_true] at hb
    obtain ⟨hf, hb1, hl⟩ := hb
    have hb1 := Ty.eq_of_beq hb1
    subst hb1
    have hk := sx hf
    have hl : st' = 0 ∨ st' = 2 := by simpa [loose] using hl
    have H1 := H.qe ho (ov' := .dead) (hl.elim (fun h => .inr ⟨h, rfl⟩) (fun h => .inl h.symm)) trivial (fun _ h => h.elim)
    obtain ⟨A, N, C, hβ, k1, k2, hv⟩ := hc
    obtain ⟨vs, how, hch⟩ := H.aY _ _ ho
    obtain ⟨q1, q2, q3⟩ := DB how hβ k1 hv
    have hlen : ((xs.take (lo + n)).drop lo).length = n := by rw [List.length_drop, List.length_take]; omega
    have hch2 := (hch.take (lo + n)).drop lo
    rw [show (vs.take ((lo + n) * t.size)).drop (lo * t.size) = (vs.drop (lo * t.size)).take (n * t.size) by rw [List.drop_take, ← Nat.sub_mul, Nat.add_sub_cancel_left]] at hch2
    have hocc : ¬ ua (e.put (.obj o (some .dead))) k := by
     rintro (⟨s, sv, h1, h2⟩ | ⟨m, ov, h1, h2⟩)
     ·exact hk (.inl ⟨s, sv, h1, h2⟩)
     ·rw [ai] at h1
      split at h1
      ·cases h1
       rename_i h3
       rcases h2 with h2 | h2
       ·exact hk (.inr ⟨_, _, ho, .inl (h3.trans h2)⟩)
       ·simp [OV.names] at h2
      ·exact hk (.inr ⟨m, ov, h1, h2⟩)
    have hob : bo v = bo (β o) := by
     rw [fE ⟨_, _, _, hv⟩, fE ⟨_, _, _, hβ⟩, q2]
    have hnew := H1.new (w' := w) (v := v) (o := k) (ov := .row t et ((xs.take (lo + n)).drop lo) (f' && f) (cond (Nat.beq st 2) 2 st')) hocc (fun _ => False) rfl rfl rfl (Nat.le_refl _) (fun _ _ _ => rfl) (fun _ h => h.elim) (fun _ _ _ _ _ h => h)
     ⟨_, by rw [bT, hlen]; exact q1, hch2.mono fun _ _ hr => bm.mono (S2.xq f' (f' && f) fun h => by rw [h]; rfl) (fun _ _ => rfl) hr⟩ (fun g hg => by
      rw [hob] at hg
      obtain ⟨p1, p2⟩ := H.own _ _ g ho hg
      refine ⟨p1, ?_, fun o' ov' h1 h2 => ?_⟩
      ·simp only [OV.st] at p2 ⊢
       cases hs2 : Nat.beq st 2 with
       | false => exact p2
       | true => exact .inr (.inr ⟨rfl, by rcases p2 with p | p | p; exact .inr p.2; omega; exact p.2⟩)
      ·rw [ai] at h1
       split at h1
       ·cases h1; exact h2
       ·rename_i hne
        exact H.inj o o' _ _ g hne ho h1 hg h2)
    have hput : ∀ m, ((e.put (.obj o (some .dead))).put (.obj k (some (.row t et ((xs.take (lo + n)).drop lo) (f' && f) (cond (Nat.beq st 2) 2 st'))))).obj m = if k = m then some (.row t et ((xs.take (lo + n)).drop lo) (f' && f) (cond (Nat.beq st 2) 2 st')) else if o = m then some .dead else e.obj m := fun m => by
     rw [ai, ai]
    refine ⟨_, _, hnew, ⟨fun n' hn' => ny _ fun h => hk (h ▸ hn'), fun _ h => h, fun n' hn' => ?_, fun _ => rfl, fun o' cs st2 h => ?_⟩, ⟨(bT ..).symm, _, _, _, hv⟩, fun n' hn' => ?_⟩
    ·rcases hn' with ⟨s, sv, h1, h2⟩ | ⟨m, ov, h1, h2⟩
     ·exact .inl ⟨s, sv, h1, h2⟩
     ·have hkm : k ≠ m := by
       rintro rfl
       exact hk (.inr ⟨_, _, h1, .inl rfl⟩)
      by_cases hom : o = m
      ·subst hom
       rw [ho] at h1
       cases h1
       simp only [OV.names, List.not_mem_nil, or_false] at h2
       exact .inr ⟨_, _, (hput _).trans ((if_neg hkm).trans (if_pos rfl)), .inl h2⟩
      ·exact .inr ⟨m, ov, (hput _).trans ((if_neg hkm).trans ((if_neg hom).trans h1)), h2⟩
    ·refine (hput _).trans ((if_neg ?_).trans ((if_neg ?_).trans h))
     ·rintro rfl
      exact hk (.inr ⟨_, _, h, .inl rfl⟩)
     ·rintro rfl
      rw [ho] at h
      cases h
    ·simp only [cond_true, aq, List.mem_singleton] at hn'
     subst hn'
     exact .inr ⟨_, _, (hput _).trans (if_pos rfl), .inl rfl⟩
  ·exact hid _ hc hn
 ·rename_i o
  split
  ·rename_i t' et xs f' ho
   refine hid _ (im (H.aY _ _ ho) (fun _ h => h) (fun g hg => ?_) hc) (fun n hn => by cases hn)
   rcases (H.own _ _ g ho hg).2 with h | h | h
   ·exact absurd h.1 (by simp [OV.st])
   ·exact h.2
   ·exact absurd h.1 (by simp [OV.st])
  ·exact hid _ hc hn
 ·exact hid _ hc hn
theorem jr (M : Env) : ∀ (ms : List Cell) (k : Nat) {cs : List Cell} {vs : List Value} {e : Env} {β : Nat → Value} {SF : Loc → Prop}, aC c β SF e a w → ao w.heap c.SA SF β cs vs → (∀ n ∈ cs.flatMap aq, ua e n) →
  ∃ β' SF', aC c β' SF' (cj M k ms cs e).2 a w ∧ Ext e β SF (cj M k ms cs e).2 β' SF' ∧ ao w.heap c.SA SF' β' (cj M k ms cs e).1 vs ∧ ∀ n ∈ (cj M k ms cs e).1.flatMap aq, ua (cj M k ms cs e).2 n
 | [], _, cs, _, e, β, SF, H, hc, hn => ⟨β, SF, by simpa [cj] using H, by simpa [cj] using Ext.refl, by simpa [cj] using hc, by simpa [cj] using hn⟩
 | _ :: _, _, [], _, e, β, SF, H, hc, hn => ⟨β, SF, by simpa [cj] using H, by simpa [cj] using Ext.refl, by simpa [cj] using hc, by simp [cj]⟩
 | m :: ms, k, cl :: cs, _, e, β, SF, H, ⟨v, r, rfl, h1, h2⟩, hn => by
  have hn1 : ∀ n ∈ aq cl, ua e n := fun n h => hn n (by simp [h])
  have hn2 : ∀ n ∈ cs.flatMap aq, ua e n := fun n h => hn n (by rw [List.flatMap_cons, List.mem_append]; exact .inr h)
  obtain ⟨β1, SF1, g1, g2, g3, g4⟩ := pw H M k m h1 hn1
  obtain ⟨β2, SF2, k1, k2, k3, k4⟩ := jr M ms (k + 1) g1 (g2.cells hn2 h2) (fun n h => g2.HW n (hn2 n h))
  simp only [cj]
  refine ⟨β2, SF2, k1, g2.trans k2, ⟨v, r, rfl, k2.cell g4 g3, k3⟩, fun n h => ?_⟩
  rw [List.flatMap_cons, List.mem_append] at h
  exact h.elim (fun h => k2.HW n (g4 n h)) (k4 n)
theorem yZ (M : Env) (k mo o : Nat) (H : Rel c e a w) : Rel c (yB M k mo o e) a w := by
 obtain ⟨β, SF, H⟩ := H
 unfold yB
 split
 ·rename_i ms _ cs st hM ho
  obtain ⟨g, arr, et, q1, q2, q3⟩ := H.aY _ _ ho
  obtain ⟨β1, SF1, g1, g2, g3, g4⟩ := jr M ms k H q3 (fun n h => .inr ⟨o, _, ho, .inr h⟩)
  have ho' := g2.boxes _ _ _ ho
  refine ⟨β1, SF1, g1.qe ho' (.inl rfl) ⟨g, arr, et, ?_, q2, g3⟩⟩
  rw [g2.eq o (.inr ⟨o, _, ho, .inl rfl⟩)]
  exact q1
 ·exact ⟨β, SF, H⟩
theorem xx (M : Env) (p : Nat × Option SV) (H : Rel c e a w) : Rel c (rv M e p) a w := by
 unfold rv
 split
 ·rename_i s m
  split
  ·exact yZ M _ _ _ H
  ·rename_i m cl _ hs
   obtain ⟨β, SF, H⟩ := H
   obtain ⟨h1, h2⟩ := H.bk _ _ hs
   obtain ⟨β1, SF1, g1, g2, g3, g4⟩ := pw H M (3000000 + 64 * s) m (show aG w.heap c.SA SF β cl _ from h2) (fun n h => .inl ⟨s, _, hs, h⟩)
   exact ⟨β1, SF1, g1.yH s h1 _ fun y hy => by cases hy; exact g3⟩
  ·rename_i ms cs hs
   obtain ⟨β, SF, H⟩ := H
   obtain ⟨h1, vs, h2, h3⟩ := H.bk _ _ hs
   obtain ⟨β1, SF1, g1, g2, g3, g4⟩ := jr M ms (3000000 + 64 * s) H h3 (fun n h => .inl ⟨s, _, hs, h⟩)
   exact ⟨β1, SF1, g1.yH s h1 _ fun y hy => by cases hy; exact ⟨vs, h2, g3⟩⟩
  ·exact H
 ·exact H
theorem qm (M : Env) (H : Rel c e a w) : Rel c (align M e) a w := by
 unfold align
 have : ∀ (l : List (Nat × Option SV)) (e : Env), Rel c e a w → Rel c (l.foldl (rv M) e) a w := by
  intro l
  induction l with
  | nil => intro e h; exact h
  | cons p l ih => intro e h; exact ih _ (xx M p h)
 exact this _ _ H
end
end Go.Px
namespace Go.Px
open Go
section
variable {c : Ctx} {β : Nat → Value} {SF : Loc → Prop} {e : Env} {a : Act} {w : World}
theorem GG {h : Array Obj} {SA : Nat → Prop} {SF : Loc → Prop} {β β' : Nat → Value} {ρ : List (Nat × Nat)} {cl : Cell} {v : Value} (hn : ∀ n ∈ aq cl, β' (gp ρ n) = β n) (H : aG h SA SF β cl v) : aG h SA SF β' (cl.Dl ρ) v := by
 cases cl with
 | val t x f => exact H
 | nil => exact H
 | row o => exact ⟨by rw [hn o (by simp [aq])]; exact H.1, H.2⟩
 | part o t lo n =>
  obtain ⟨A, N, C, h1, h2⟩ := H
  exact ⟨A, N, C, by rw [hn o (by simp [aq])]; exact h1, h2⟩
 | ptr o k =>
  obtain ⟨g, h1, h2⟩ := H
  exact ⟨g, by rw [hn o (by simp [aq])]; exact h1, h2⟩
 | xQ o t i k =>
  obtain ⟨g, b, N, C, h1, h2⟩ := H
  exact ⟨g, b, N, C, by rw [hn o (by simp [aq])]; exact h1, h2⟩
 | lj t x f => exact H
 | fn f caps =>
  obtain ⟨h1, h2⟩ := H
  refine ⟨by rw [h1, List.map_map]; congr 2; exact List.map_congr_left fun o ho => (hn o ho).symm, fun o ho => ?_⟩
  obtain ⟨m, hm, rfl⟩ := List.mem_map.1 ho
  obtain ⟨g, hg⟩ := h2 m hm
  exact ⟨g, by rw [hn m hm]; exact hg⟩
 | mp o => exact ⟨by rw [hn o (by simp [aq])]; exact H.1, H.2⟩
 | ad et t k i off => exact H
theorem uw {h : Array Obj} {SA : Nat → Prop} {SF : Loc → Prop} {β β' : Nat → Value} {ρ : List (Nat × Nat)} : ∀ {cs : List Cell} {vs : List Value}, (∀ n ∈ cs.flatMap aq, β' (gp ρ n) = β n) → ao h SA SF β cs vs → ao h SA SF β' (cs.map (Cell.Dl ρ)) vs
 | [], _, _, H => H
 | cl :: cs, _, hn, ⟨v, r, e, h1, h2⟩ => ⟨v, r, e, GG (fun n hn' => hn n (by simp [hn'])) h1, uw (fun n hn' => hn n (by rw [List.flatMap_cons, List.mem_append]; exact .inr hn')) h2⟩
theorem DM {h : Array Obj} {SA : Nat → Prop} {SF : Loc → Prop} {β β' : Nat → Value} {ρ : List (Nat × Nat)} : ∀ {l : List (Bool × List Cell)} {vs : List Value}, (∀ n ∈ l.flatMap (fun p => p.2.flatMap aq), β' (gp ρ n) = β n) →
  gk (lf h SA SF β) l vs → gk (lf h SA SF β') (l.map fun p => (p.1, p.2.map (Cell.Dl ρ))) vs
 | [], _, _, H => H
 | p :: l, _, hn, ⟨v, r, e, ⟨us, h1, h3⟩, h2⟩ => ⟨v, r, e, ⟨us, uw (fun n hn' => hn n (by rw [List.flatMap_cons, List.mem_append]; exact .inl hn')) h1, h3⟩,
   DM (fun n hn' => hn n (by rw [List.flatMap_cons, List.mem_append]; exact .inr hn')) h2⟩
theorem JM {h : Array Obj} {SA : Nat → Prop} {SF : Loc → Prop} {β β' : Nat → Value} {ρ : List (Nat × Nat)} {s : SV} {v : Value} (hn : ∀ n ∈ s.names, β' (gp ρ n) = β n) (H : eg h SA SF β s v) : eg h SA SF β' (s.Dl ρ) v := by
 cases s with
 | cell cl => exact GG hn H
 | agg cs => obtain ⟨vs, h1, h2⟩ := H; exact ⟨vs, h1, uw hn h2⟩
 | xr l => obtain ⟨vs, h1, h2⟩ := H; exact ⟨vs, h1, DM hn h2⟩
 | undef => exact H
 | top => trivial
theorem JN {SA : Nat → Prop} {SF : Loc → Prop} {β β' : Nat → Value} {ρ : List (Nat × Nat)} {w : World} {o : Nat} {ov : OV} (ho : β' (gp ρ o) = β o) (hn : ∀ n ∈ ov.names, β' (gp ρ n) = β n) (hm : P6 (some ov) = false) (H : cS SA SF β w o ov) : cS SA SF β' w (gp ρ o) (ov.Dl ρ) := by
 cases ov with
 | row t et xs f st => obtain ⟨vs, h1, h2⟩ := H; exact ⟨vs, by rw [ho]; exact h1, h2⟩
 | box cs st => obtain ⟨g, arr, et, h1, h2, h3⟩ := H; exact ⟨g, arr, et, by rw [ho]; exact h1, h2, uw hn h3⟩
 | mp k es st => obtain ⟨g, ents, ck, h1, h2⟩ := H; exact ⟨g, ents, ck, by rw [ho]; exact h1, h2⟩
 | mem t et bs => cases hm
 | dead => trivial
 | al t et x =>
  show bm w.heap (S2 SA SF true) (.aI et t) [β' (gp ρ o)] x
  rw [ho]
  exact H
theorem JO {SF : Loc → Prop} {β β' : Nat → Value} {ρ : List (Nat × Nat)} {o g : Nat} {ov : OV} (ho : β' (gp ρ o) = β o) (hm : P6 (some ov) = false) (h : bI SF β' (gp ρ o) (ov.Dl ρ) g) : bI SF β o ov g := by
 cases ov with
 | row t et xs f st => exact (show bo (β o) = some g by rw [← ho]; exact h)
 | box cs st => exact (show bo (β o) = some g by rw [← ho]; exact h)
 | mp k es st => exact (show bo (β o) = some g by rw [← ho]; exact h)
 | mem t et bs => cases hm
 | al t et x => exact h.elim
 | dead => exact h.elim
theorem NW (ov : OV) (ρ : List (Nat × Nat)) : (ov.Dl ρ).st = ov.st := by cases ov <;> rfl
theorem qn : ∀ {L : List Nat} {k m : Nat}, m ∈ L → ∃ i, L[i]? = some m ∧ gp (iF k L) m = k + i
 | a :: L, k, m, h => by
  simp only [iF, gp, Bool.cond_eq_ite, Nat.beq_eq]
  by_cases ha : a = m
  ·subst ha
   exact ⟨0, rfl, by simp⟩
  ·obtain ⟨i, h1, h2⟩ := qn (k := k + 1) ((List.mem_cons.1 h).resolve_left fun h => ha h.symm)
   exact ⟨i + 1, by simpa using h1, by rw [if_neg ha, h2]; omega⟩
theorem y0 : ∀ {l : List Nat} {p : Nat × Option SV}, p ∈ kept e l → e.slot p.1 = p.2
 | s :: l, p, h => by
  simp only [kept] at h
  split at h
  ·rename_i x hx
   rcases List.mem_cons.1 h with rfl | h
   ·exact hx
   ·exact y0 h
  ·exact y0 h
theorem rH : ∀ {l : List Nat} {p : Nat × Option OV}, p ∈ sq e l → e.obj p.1 = p.2
 | s :: l, p, h => by
  simp only [sq] at h
  split at h
  ·rename_i x hx
   rcases List.mem_cons.1 h with rfl | h
   ·exact hx
   ·exact rH h
  ·exact rH h
theorem vN : ∀ {l : List Nat} {p : Nat × Option OV}, p ∈ sq e l → p.1 ∈ l
 | s :: l, p, h => by
  simp only [sq] at h
  split at h
  ·rcases List.mem_cons.1 h with rfl | h
   ·exact List.mem_cons_self ..
   ·exact List.mem_cons_of_mem _ (vN h)
  ·exact List.mem_cons_of_mem _ (vN h)
theorem vO : ∀ {l seen : List Nat} {n : Nat}, n ∈ dedup l seen → n ∉ seen
 | a :: l, seen, n, h => by
  simp only [dedup, Bool.cond_eq_ite] at h
  split at h
  ·exact vO h
  ·rename_i ha
   rcases List.mem_cons.1 h with rfl | h
   ·intro hn
    exact ha (List.any_eq_true.2 ⟨_, hn, by simp⟩)
   ·exact fun hn => vO h (List.mem_cons_of_mem _ hn)
theorem y3 {p : Nat × Option OV} (h : p ∈ vC e) : p.1 < 1000000 ∧ e.obj p.1 = p.2 := by
 obtain ⟨h1, h2⟩ := List.mem_filter.1 h
 refine ⟨?_, rH h1⟩
 unfold Gs at h2
 split at h2
 ·exact Nat.le_of_ble_eq_true h2
 ·cases h2
theorem aC.tell (H : aC c β SF e a w) {β' : Nat → Value} {e' : Env} (hs : ∀ s sv, e'.slot s = some sv → s < c.N ∧ eg w.heap c.SA SF β' sv (a.tmps.getD s undef))
  (π : Nat → Nat) (ho : ∀ o ov, e'.obj o = some ov → ∃ ov', e.obj (π o) = some ov' ∧ ov.st = ov'.st ∧ (∀ g, bI SF β' o ov g → bI SF β (π o) ov' g) ∧ cS c.SA SF β' w o ov) (hπ : ∀ o o' ov ov', o ≠ o' → e'.obj o = some ov → e'.obj o' = some ov' → π o ≠ π o') :
  aC c β' SF e' a w := by
 refine ⟨H.os, H.tape, H.output, H.size, H.sr, H.sa, H.P0, H.sf, H.mu, H.nd, H.nt, H.pins, hs, fun o ov h => (ho o ov h).choose_spec.2.2.2, fun o ov g h hg => ?_, fun o o' ov ov' g hne h h' hg hg' => ?_⟩
 ·obtain ⟨ov', h1, h2, h3, _⟩ := ho o ov h
  rw [h2]
  exact H.own _ _ g h1 (h3 g hg)
 ·obtain ⟨ov1, h1, h2, h3, _⟩ := ho o ov h
  obtain ⟨ov2, k1, k2, k3, _⟩ := ho o' ov' h'
  exact H.inj _ _ _ _ g (hπ o o' ov ov' hne h h') h1 k1 (h3 g hg) (k3 g hg')
theorem qo (keep : List Nat) (H : Rel c e a w) : Rel c (canon keep e) a w := by
 obtain ⟨β, SF, H⟩ := H
 unfold canon
 simp only
 generalize hss : kept e (dedup keep []) = ss
 generalize hn2 : dedup _ ((vC e).map (·.1)) = n2
 generalize hoo : sq e n2 = oo
 generalize hL : oo.map (·.1) = L
 have hmem : ∀ n, (oo.any fun p => Nat.beq p.1 n) = true → n ∈ L := fun n h => by
  obtain ⟨p, hp, h1⟩ := List.any_eq_true.1 h
  rw [← hL]
  exact List.mem_map.2 ⟨p, hp, by simpa using h1⟩
 have hout : ∀ n, n ∈ L → n ∉ (vC e).map (·.1) := fun n hn => by
  rw [← hL] at hn
  obtain ⟨p, hp, rfl⟩ := List.mem_map.1 hn
  rw [← hoo] at hp
  have := vN hp
  rw [← hn2] at this
  exact vO this
 let π : Nat → Nat := fun n => if n < 1000000 then n else (L[n - 1000000]?).getD 0
 have hπ : ∀ n, n ∈ L → π (gp (iF 1000000 L) n) = n := fun n hn => by
  obtain ⟨i, h1, h2⟩ := qn (k := 1000000) hn
  simp only [π, h2]
  rw [if_neg (by omega), show 1000000 + i - 1000000 = i by omega, h1]
  rfl
 have hap : ∀ o ov, look ((List.map (fun p => (gp (iF 1000000 L) p.1, Option.map (OV.Dl (iF 1000000 L)) p.2)) (List.filter (fun x => !(P6 x.2) && (dP OV.names x).all fun n => oo.any fun p => p.1.beq n) oo)) ++ vC e) o = some ov →
   (∃ k x, k ∈ L ∧ e.obj k = some x ∧ P6 (some x) = false ∧ (∀ n ∈ x.names, n ∈ L) ∧ o = gp (iF 1000000 L) k ∧ ov = x.Dl (iF 1000000 L)) ∨ (o < 1000000 ∧ e.obj o = some ov ∧ o ∈ (vC e).map (·.1)) := fun o ov h => by
  rcases fB _ _ _ _ h with h | h
  ·obtain ⟨p, hp, hpe⟩ := List.mem_map.1 (bW h)
   obtain ⟨hp1, hp2⟩ := List.mem_filter.1 hp
   obtain ⟨k, x⟩ := p
   cases x with
   | none => simp at hpe
   | some x =>
    simp only [Prod.mk.injEq, Option.map_some, Option.some.injEq] at hpe
    obtain ⟨rfl, rfl⟩ := hpe
    simp only [Bool.and_eq_true, Bool.not_eq_true'] at hp2
    exact .inl ⟨k, x, by rw [← hL]; exact List.mem_map.2 ⟨_, hp1, rfl⟩, rH (hoo ▸ hp1), hp2.1, fun n hn => hmem n (List.all_eq_true.1 hp2.2 n hn), rfl, rfl⟩
  ·obtain ⟨h1, h2⟩ := y3 (bW h)
   exact .inr ⟨h1, h2, List.mem_map.2 ⟨_, bW h, rfl⟩⟩
 refine ⟨fun n => β (π n), SF, H.tell (fun s sv h => ?_) π (fun o ov h => ?_) (fun o o' ov ov' hne h h' => ?_)⟩
 ·obtain ⟨p, hp, hpe⟩ := List.mem_map.1 (bW h)
  obtain ⟨hp1, hp2⟩ := List.mem_filter.1 hp
  obtain ⟨k, x⟩ := p
  cases x with
  | none => simp at hpe
  | some x =>
   simp only [Prod.mk.injEq, Option.map_some, Option.some.injEq] at hpe
   obtain ⟨rfl, rfl⟩ := hpe
   have hk := y0 (hss ▸ hp1)
   obtain ⟨h1, h2⟩ := H.bk _ _ hk
   refine ⟨h1, JM (fun n hn => ?_) h2⟩
   show β (π _) = β n
   rw [hπ n (hmem n (List.all_eq_true.1 hp2 n hn))]
 ·rcases hap o ov h with ⟨k, x, hk, hx, hm, oN, rfl, rfl⟩ | ⟨h1, h2, h3⟩
  ·have hpk := hπ k hk
   refine ⟨x, by rw [hpk]; exact hx, NW _ _, fun g hg => ?_, JN (by show β (π _) = β k; rw [hpk]) (fun n hn => ?_) hm (H.aY _ _ hx)⟩
   ·rw [hpk]
    exact JO (by show β (π _) = β k; rw [hpk]) hm hg
   ·show β (π _) = β n
    rw [hπ n (oN n hn)]
  ·have hp : π o = o := if_pos h1
   obtain ⟨q, hq, hq2⟩ := List.mem_map.1 h3
   have hqm := (List.mem_filter.1 hq).2
   have hqe := (y3 hq).2
   rw [hq2, h2] at hqe
   unfold Gs at hqm
   split at hqm
   ·cases hqe
    have hH := H.aY _ _ h2
    exact ⟨_, by rw [hp]; exact h2, rfl, fun g hg => by rw [hp]; exact hg, hH⟩
   ·cases hqm
 ·rcases hap o ov h with ⟨k, x, hk, _, _, _, e1, _⟩ | ⟨h1, h2, h3⟩ <;> rcases hap o' ov' h' with ⟨k', x', hk', _, _, _, e2, _⟩ | ⟨h1', h2', h3'⟩
  ·rw [e1, e2, hπ k hk, hπ k' hk']
   rintro rfl
   exact hne (e1.trans e2.symm)
  ·rw [e1, hπ k hk, show π o' = o' from if_pos h1']
   rintro rfl
   exact hout _ hk h3'
  ·rw [e2, hπ k' hk', show π o = o from if_pos h1]
   rintro rfl
   exact hout _ hk' h3
  ·rw [show π o = o from if_pos h1, show π o' = o' from if_pos h1']
   exact hne
theorem cy {α : Type} {c : Prop} [Decidable c] {x : Option α} {p : α} (h : (if c then x else none) = some p) : c ∧ x = some p := by
 split at h
 ·exact ⟨by assumption, h⟩
 ·cases h
theorem DN {h : Array Obj} {SA : Nat → Prop} {SF : Loc → Prop} {β : Nat → Value} : ∀ {G x : Cell} {p : G.nM} {v : Value}, G.get x = some p → aG h SA SF β x v → aG h SA SF β (G.mk p) v := by
 intro G x p v hg H
 unfold Cell.get at hg
 split at hg
 ·rename_i t _ f t' x f'
  obtain ⟨hf, hg⟩ := cy (α := t.den) hg
  obtain ⟨rfl, hx⟩ := nZ hg
  cases hx
  exact uv (f := f') (fun h => by rw [h] at hf; cases f <;> first | rfl | cases hf) H
 ·exact H
 ·rename_i o o'
  split at hg
  ·rename_i ho; simp only [Nat.beq_eq] at ho; subst ho; exact H
  ·cases hg
 ·rename_i o t _ _ o' t' lo n
  split at hg
  ·rename_i ho
   simp only [Bool.and_eq_true, Nat.beq_eq] at ho
   obtain ⟨rfl, ht⟩ := ho
   have ht := Ty.eq_of_beq ht
   subst ht
   cases hg
   exact H
  ·cases hg
 ·rename_i o k o' k'
  split at hg
  ·rename_i ho
   simp only [Bool.and_eq_true, Nat.beq_eq] at ho
   obtain ⟨rfl, rfl⟩ := ho
   exact H
  ·cases hg
 ·rename_i o t _ k o' t' i k'
  split at hg
  ·rename_i ho
   simp only [Bool.and_eq_true, Nat.beq_eq] at ho
   obtain ⟨rfl, ht, rfl⟩ := ho
   have ht := Ty.eq_of_beq ht
   subst ht
   cases hg
   exact H
  ·cases hg
 ·rename_i t _ f t' x f'
  obtain ⟨hf, hg⟩ := cy (α := t.den) hg
  obtain ⟨rfl, hx⟩ := nZ hg
  cases hx
  exact A4 (f := f') (fun h => by rw [h] at hf; cases f <;> first | rfl | cases hf) H
 ·rename_i f l f' l'
  split at hg
  ·rename_i ho
   simp only [Bool.and_eq_true, Nat.beq_eq] at ho
   have hl : ∀ {a b : List Nat}, tY a b = true → a = b := by
    intro a
    induction a with
    | nil => intro b h; cases b <;> first | rfl | cases h
    | cons x a ih =>
     intro b h
     cases b with
     | nil => cases h
     | cons y b =>
      simp only [tY, Bool.and_eq_true, Nat.beq_eq] at h
      rw [h.1, ih h.2]
   obtain ⟨rfl, hl'⟩ := ho
   have := hl hl'
   subst this
   exact H
  ·cases hg
 ·rename_i o o'
  split at hg
  ·rename_i ho
   have ho := Nat.eq_of_beq_eq_true ho
   subst ho
   exact H
  ·cases hg
 ·rename_i et t _ _ off et' t' k i off'
  split at hg
  ·rename_i ho
   simp only [Bool.and_eq_true, Nat.beq_eq] at ho
   obtain ⟨rfl, ht, rfl⟩ := ho
   have ht := Ty.eq_of_beq ht
   subst ht
   cases hg
   exact H
  ·cases hg
 ·cases hg
theorem rI {h : Array Obj} {SA : Nat → Prop} {SF : Loc → Prop} {β : Nat → Value} : ∀ {G xs : List Cell} {p : jU G} {vs : List Value}, nS G xs = some p → ao h SA SF β xs vs → ao h SA SF β (tZ G p) vs
 | [], [], _, _, _, H => H
 | [], _ :: _, _, _, h, _ => by cases h
 | _ :: _, [], _, _, h, _ => by cases h
 | g :: G, x :: xs, p, _, hg, ⟨v, r, e, h1, h2⟩ => by
  simp only [nS] at hg
  split at hg
  ·rename_i q1 q2 g1 g2
   cases hg
   exact ⟨v, r, e, DN g1 h1, rI g2 h2⟩
  ·cases hg
theorem GH {h : Array Obj} {SA : Nat → Prop} {SF : Loc → Prop} {β : Nat → Value} : ∀ {G xs : List (Bool × List Cell)} {p : yA G} {vs : List Value}, BI G xs = some p → gk (lf h SA SF β) xs vs → gk (lf h SA SF β) (Js G p) vs
 | [], [], _, _, _, H => H
 | [], _ :: _, _, _, h, _ => by cases h
 | _ :: _, [], _, _, h, _ => by cases h
 | g :: G, x :: xs, p, _, hg, ⟨v, r, e, ⟨us, h1, h3⟩, h2⟩ => by
  simp only [BI] at hg
  split at hg
  ·rename_i hb
   split at hg
   ·rename_i q1 q2 g1 g2
    cases hg
    have hb : g.1 = x.1 := by simpa [r9] using hb
    exact ⟨v, r, e, ⟨us, rI g1 h1, by rw [h3, ← hb]⟩, GH g2 h2⟩
   ·cases hg
  ·cases hg
theorem NX {h : Array Obj} {SA : Nat → Prop} {SF : Loc → Prop} {β : Nat → Value} : ∀ {G x : SV} {p : G.nM} {v : Value}, G.get x = some p → eg h SA SF β x v → eg h SA SF β (G.mk p) v
 | .cell _, .cell _, _, _, hg, H => DN hg H
 | .agg _, .agg _, _, _, hg, ⟨vs, h1, h2⟩ => ⟨vs, h1, rI hg h2⟩
 | .xr _, .xr _, _, _, hg, ⟨vs, h1, h2⟩ => ⟨vs, h1, GH hg h2⟩
 | .undef, .undef, _, _, _, H => H
 | .top, _, _, _, _, _ => trivial
 | .cell _, .agg _, _, _, hg, _ => by cases hg
 | .cell _, .xr _, _, _, hg, _ => by cases hg
 | .cell _, .undef, _, _, hg, _ => by cases hg
 | .cell _, .top, _, _, hg, _ => by cases hg
 | .agg _, .cell _, _, _, hg, _ => by cases hg
 | .agg _, .xr _, _, _, hg, _ => by cases hg
 | .agg _, .undef, _, _, hg, _ => by cases hg
 | .agg _, .top, _, _, hg, _ => by cases hg
 | .xr _, .cell _, _, _, hg, _ => by cases hg
 | .xr _, .agg _, _, _, hg, _ => by cases hg
 | .xr _, .undef, _, _, hg, _ => by cases hg
 | .xr _, .top, _, _, hg, _ => by cases hg
 | .undef, .cell _, _, _, hg, _ => by cases hg
 | .undef, .agg _, _, _, hg, _ => by cases hg
 | .undef, .xr _, _, _, hg, _ => by cases hg
 | .undef, .top, _, _, hg, _ => by cases hg
theorem NY {SA : Nat → Prop} {SF : Loc → Prop} {β : Nat → Value} {w : World} {o : Nat} {G x : OV} {p : G.nM} (hg : G.get x = some p) (H : cS SA SF β w o x) : (G.mk p).st = x.st ∧ (∀ g, bI SF β o (G.mk p) g → bI SF β o x g) ∧ cS SA SF β w o (G.mk p) := by
 cases G <;> cases x <;> simp only [OV.get] at hg
 all_goals first | (cases hg; done) | skip
 ·rename_i t et _ f st t' et' xs f' st'
  obtain ⟨hc, hg2⟩ := cy (α := List t.den) hg
  clear hg
  simp only [Bool.and_eq_true, Nat.beq_eq] at hc
  obtain ⟨rfl, rfl, hf⟩ := hc
  obtain ⟨rfl, hx⟩ := fX hg2
  cases hx
  exact ⟨rfl, fun _ h => h, uu (f := f') (fun h => by rw [h] at hf; cases f <;> first | rfl | cases hf) H⟩
 ·rename_i cs st xs st'
  obtain ⟨hc, hg2⟩ := cy (α := jU cs) hg
  clear hg
  simp only [Nat.beq_eq] at hc
  subst hc
  obtain ⟨g, arr, et, h1, h2, h3⟩ := H
  exact ⟨rfl, fun _ h => h, g, arr, et, h1, h2, rI hg2 h3⟩
 ·rename_i k es0 st k' es st'
  obtain ⟨hc, hg2⟩ := cy (α := List (ByteArray × Int)) hg
  clear hg
  simp only [Bool.and_eq_true, Nat.beq_eq] at hc
  obtain ⟨h1, rfl⟩ := hc
  have h1 := Ty.dH h1
  subst h1
  cases hg2
  exact ⟨rfl, fun _ h => h, H⟩
 ·rename_i t et bs0 t' et' bs
  obtain ⟨hc, hg2⟩ := cy (α := List (Option (List t.den))) hg
  clear hg
  have hc := Nat.eq_of_beq_eq_true hc
  subst hc
  obtain ⟨rfl, hx⟩ := Dr hg2
  cases hx
  exact ⟨rfl, fun _ h => h, H⟩
 ·rename_i t et x0 t' et' x
  obtain ⟨hc, hg2⟩ := cy (α := Nat × Nat × Nat) hg
  clear hg
  simp only [Bool.and_eq_true, Nat.beq_eq] at hc
  obtain ⟨h1, rfl⟩ := hc
  have h1 := Ty.eq_of_beq h1
  subst h1
  cases hg2
  exact ⟨rfl, fun _ h => h, H⟩
 ·exact ⟨rfl, fun _ h => h, H⟩
theorem vP {s : Nat} {sv : SV} : ∀ {G : List (Nat × Option SV)} {p : nT G}, nU G e = some p → look (rq G p) s = some sv → ∃ (g x : SV) (q : g.nM), e.slot s = some x ∧ g.get x = some q ∧ sv = g.mk q
 | [], _, _, h => by cases h
 | (k, some g) :: G, p, hg, h => by
  simp only [nU] at hg
  split at hg
  ·rename_i x hx
   split at hg
   ·rename_i q1 q2 g1 g2
    cases hg
    simp only [rq, dz] at h
    split at h
    ·subst_vars
     cases h
     exact ⟨g, x, q1, hx, g1, rfl⟩
    ·exact vP g2 h
   ·cases hg
  ·cases hg
 | (k, none) :: G, p, hg, h => by
  simp only [nU] at hg
  simp only [rq, dz] at h
  split at h
  ·cases h
  ·exact vP hg h
theorem y4 {s : Nat} {sv : OV} : ∀ {G : List (Nat × Option OV)} {p : rr G}, ru G e = some p → look (vB G p) s = some sv → ∃ (g x : OV) (q : g.nM), e.obj s = some x ∧ g.get x = some q ∧ sv = g.mk q
 | [], _, _, h => by cases h
 | (k, some g) :: G, p, hg, h => by
  simp only [ru] at hg
  split at hg
  ·rename_i x hx
   split at hg
   ·rename_i q1 q2 g1 g2
    cases hg
    simp only [vB, dz] at h
    split at h
    ·subst_vars
     cases h
     exact ⟨g, x, q1, hx, g1, rfl⟩
    ·exact y4 g2 h
   ·cases hg
  ·cases hg
 | (k, none) :: G, p, hg, h => by
  simp only [ru] at hg
  simp only [vB, dz] at h
  split at h
  ·cases h
  ·exact y4 hg h
theorem vQ {G : Env} {p : Jt G} (hg : G.get e = some p) (H : Rel c e a w) : Rel c (G.mk' p) a w := by
 obtain ⟨β, SF, H⟩ := H
 unfold Env.get at hg
 split at hg
 ·rename_i q1 q2 g1 g2
  cases hg
  refine ⟨β, SF, H.tell (fun s sv h => ?_) id (fun o ov h => ?_) (fun o o' ov ov' hne _ _ => hne)⟩
  ·obtain ⟨g, x, q, h1, h2, rfl⟩ := vP g1 h
   obtain ⟨h3, h4⟩ := H.bk _ _ h1
   exact ⟨h3, NX h2 h4⟩
  ·obtain ⟨g, x, q, h1, h2, rfl⟩ := y4 g2 h
   obtain ⟨h3, h4⟩ := NY h2 (H.aY _ _ h1)
   exact ⟨x, h1, h3, h4.1, h4.2⟩
 ·cases hg
end
end Go.Px
namespace Go.Px
open Go
def X.exit : X → Exit
 | .vx => .normal | .ex k => .exit k | .ret => .ret
theorem H9 {P : Program} {Q : Exit → Act → World → Prop} {c : Code} (I : Nat → Act → World → Prop)
  (round : ∀ n a w, I n a w → c.wp P (Exit.then (fun a' w' => ∃ m, m < n ∧ I m a' w') Q) a w) {n : Nat} {a : Act} {w : World} (h : I n a w) : (Code.loop c).wp P Q a w := by
 intro b k cs
 have key : ∀ n a w, I n a w → ∃ e a' w', Q e a' w' ∧ Arrives P (lone (b.at a (.code c :: .inLoop c :: k)) cs w) b k cs e a' w' := by
  intro n
  induction n using Nat.strongRecOn with
  | _ n ih =>
   intro a w hI
   obtain ⟨e, a1, w1, hq, harr⟩ := round n a w hI b (.inLoop c :: k) cs
   cases e with
   | normal =>
    obtain ⟨m, hm, hI1⟩ := hq
    obtain ⟨e2, a2, w2, hq2, harr2⟩ := ih m hm a1 w1 hI1
    exact ⟨e2, a2, w2, hq2, .of_steps (Steps.trans harr (.one step_inLoop)) harr2⟩
   | exit id => exact ⟨_, a1, w1, hq, .pass (x := .inLoop c) rfl (fun _ _ => .inl (by simp)) harr⟩
   | goto l => exact ⟨_, a1, w1, hq, .pass (x := .inLoop c) rfl (fun _ _ => .inl (by simp)) harr⟩
   | ret => exact ⟨_, a1, w1, hq, .pass (x := .inLoop c) rfl (fun _ _ => .inl (by simp)) harr⟩
   | panic ch => exact ⟨_, a1, w1, hq, .pass (x := .inLoop c) rfl (fun _ _ => .inl (by simp)) harr⟩
   | outgrown => exact ⟨_, a1, w1, hq, .pass (x := .inLoop c) rfl (fun _ _ => .inl (by simp)) harr⟩
 obtain ⟨e, a', w', hq, harr⟩ := key n a w h
 exact ⟨e, a', w', hq, .of_steps (.one step_loop) harr⟩
variable {P : Program} {cx : Cx} {c : Ctx}
def Ends (c : Ctx) {R : Type} (K : X → Env → Option R) (r : R) (Q : Exit → Act → World → Prop) : Prop := ∀ x e', K x e' = some r → ∀ a w, Rel c e' a w → Q x.exit a w
theorem ux {e : Env} {a : Act} {w : World} (x : Code) (H : Rel c e a w) : Rel c (vE cx x e) a w := by
 unfold vE
 split
 ·exact qm _ H
 ·exact H
theorem gu (F : Fits P cx c) (hm : P.follows .mixedOrders = true) : ∀ (code : Code) (R : Type) (e : Env) (live : List Nat) (K : X → Env → Option R) (r : R), ev cx code R e live K = some r →
  ∀ (Q : Exit → Act → World → Prop), Ends c K r Q → ∀ (a : Act) (w : World), Rel c e a w → code.wp P Q a w
 | .skip, R, e, live, K, r, h, Q, hQ, a, w, H => wp_skip (hQ .vx e (by simpa only [ev] using h) a w H)
 | .region id ops draw, R, e, live, K, r, h, Q, hQ, a, w, H => by
  simp only [ev] at h
  exact BT F hm h (fun e' h' a w H' => hQ .vx e' h' a w H') H
 | .seq x y, R, e, live, K, r, h, Q, hQ, a, w, H => by
  simp only [ev] at h
  refine wp_seq ?_
  split at h
  ·refine gu F hm x R e _ _ r h _ (fun z e' hz a w H' => ?_) a w H
   cases z with
   | vx => exact gu F hm y R e' live K r hz Q hQ a w H'
   | ex k => exact hQ (.ex k) e' hz a w H'
   | ret => exact hQ .ret e' hz a w H'
  ·rename_i e1 _
   obtain ⟨s, h1, h2⟩ := Option.bind_eq_some_iff.1 h
   refine gu F hm x _ e _ _ s h1 _ (fun z e' hz a w H' => ?_) a w H
   cases z with
   | vx =>
    obtain ⟨p, hp, rfl⟩ := Option.map_eq_some_iff.1 hz
    exact gu F hm y R _ live K r h2 Q hQ a w (vQ hp (qo _ (qm _ H')))
   | ex k =>
    obtain ⟨p, hp, rfl⟩ := Option.map_eq_some_iff.1 hz
    cases h2
    exact hQ (.ex k) e' hp a w H'
   | ret =>
    obtain ⟨p, hp, rfl⟩ := Option.map_eq_some_iff.1 hz
    cases h2
    exact hQ .ret e' hp a w H'
 | .cond o x y, R, e, live, K, r, h, Q, hQ, a, w, H => by
  simp only [ev] at h
  split at h
  ·rename_i s
   split at h
   ·rename_i t f hs
    have hv : a.eval (.tmp s) = .bool t := by
     obtain ⟨β, SF, H⟩ := H
     exact lW (show aG w.heap c.SA SF β (.val .bool t f) _ from (H.bk _ _ hs).2)
    have hq := uj.refine hs
    split at h
    ·exact wp_cond_true hv (gu F hm x R _ live K r h Q hQ a w (H.eqv hq))
    ·exact wp_cond_false hv (gu F hm y R _ live K r h Q hQ a w (H.eqv hq))
   ·cases h
  ·rename_i t
   split at h
   ·exact wp_cond_true rfl (gu F hm x R _ live K r h Q hQ a w H)
   ·exact wp_cond_false rfl (gu F hm y R _ live K r h Q hQ a w H)
  ·cases h
 | .block id x, R, e, live, K, r, h, Q, hQ, a, w, H => by
  simp only [ev] at h
  refine wp_block (gu F hm x R e live _ r h _ (fun z e' hz a w H' => ?_) a w H)
  cases z with
  | vx => exact hQ .vx e' hz a w H'
  | ret => exact hQ .ret e' hz a w H'
  | ex k =>
   simp only [Bool.cond_eq_ite, Nat.beq_eq] at hz
   simp only [X.exit, Exit.inBlock]
   split at hz
   ·rename_i hk
    rw [if_pos hk]
    exact hQ .vx e' hz a w H'
   ·rename_i hk
    rw [if_neg hk]
    exact hQ (.ex k) e' hz a w H'
 | .loop x, R, e, live, K, r, h, Q, hQ, a, w, H => by
  simp only [ev] at h
  split at h
  ·cases h
  ·rename_i p hp
   have H0 := vQ hp (qo (qb x ++ live) (ux (cx := cx) x (ux (cx := cx) x H)))
   generalize canon (qb x ++ live) (vE cx x (vE cx x e)) = G at *
   generalize hF : (fun (REC : Jt G → Option R) q => ev cx x R (G.mk' q) (qb x ++ live) fun x e' => match x with
    | .vx => match G.get (canon (G.bk.map (·.1)) (align G e')) with
     | some q' => REC q'
     | none => none
    | x => K x e') = FF at h
   refine H9 (fun n a w => ∃ q, Rel c (G.mk' q) a w ∧ iter FF n q = some r) (fun n a w hI => ?_) (n := cx.n) ⟨p, H0, h⟩
   obtain ⟨q, Hq, hq⟩ := hI
   cases n with
   | zero => cases hq
   | succ n =>
    simp only [iter] at hq
    rw [← hF] at hq
    refine gu F hm x R _ _ _ r hq _ (fun z e' hz a w H' => ?_) a w Hq
    cases z with
    | vx =>
     simp only at hz
     split at hz
     ·rename_i q' hq'
      rw [hF] at hz
      exact ⟨n, Nat.lt_succ_self n, q', vQ hq' (qo _ (qm _ H')), hz⟩
     ·cases hz
    | ex k => exact hQ (.ex k) e' hz a w H'
    | ret => exact hQ .ret e' hz a w H'
 | .exit k, R, e, live, K, r, h, Q, hQ, a, w, H => wp_exit (hQ (.ex k) e (by simpa only [ev] using h) a w H)
 | .ret, R, e, live, K, r, h, Q, hQ, a, w, H => wp_ret (hQ .ret e (by simpa only [ev] using h) a w H)
 | .rangeFunc .., R, e, live, K, r, h, Q, hQ, a, w, H => by simp only [ev] at h; cases h
 | .scope .., R, e, live, K, r, h, Q, hQ, a, w, H => by simp only [ev] at h; cases h
 | .label .., R, e, live, K, r, h, Q, hQ, a, w, H => by simp only [ev] at h; cases h
 | .goto .., R, e, live, K, r, h, Q, hQ, a, w, H => by simp only [ev] at h; cases h
 | .refuse .., R, e, live, K, r, h, Q, hQ, a, w, H => by simp only [ev] at h; cases h
end Go.Px
