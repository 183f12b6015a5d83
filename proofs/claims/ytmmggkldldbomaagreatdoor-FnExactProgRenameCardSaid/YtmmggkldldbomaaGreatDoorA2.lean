/- Own texts, part A2: PxF PxG PxH PxI PxJ PxK PxL PxM PxMp PxN. -/
import Derived.Test.YtmmggkldldbomaaGreatDoorA1
import Derived.Laws.Slices
import Derived.Laws.Strings
import Derived.Laws.MakeOwn
import Derived.MapKept
import Derived.Laws.CopyRow
import Derived.Laws.BytesString
import Derived.Laws.Cells
set_option linter.unusedVariables false
namespace Go.Px
open Go
section
variable {h : Array Obj} {SA : Nat → Prop} {SF : Loc → Prop} {β : Nat → Value}
theorem ao.nil : ao h SA SF β [] [] := rfl
theorem ao.cons {c : Cell} {v : Value} {cs : List Cell} {vs : List Value} (h1 : aG h SA SF β c v) (h2 : ao h SA SF β cs vs) : ao h SA SF β (c :: cs) (v :: vs) := ⟨v, vs, rfl, h1, h2⟩
theorem ao.append : ∀ {cs ds : List Cell} {vs us : List Value}, ao h SA SF β cs vs → ao h SA SF β ds us → ao h SA SF β (cs ++ ds) (vs ++ us)
 | [], _, _, _, e, h2 => by simp only [ao, gk] at e; subst e; exact h2
 | _ :: _, _, _, us, ⟨v, r, e, h1, h3⟩, h2 => ⟨v, r ++ us, by rw [e]; rfl, h1, ao.append h3 h2⟩
theorem ao.take : ∀ {cs : List Cell} {vs : List Value} (n : Nat), ao h SA SF β cs vs → ao h SA SF β (cs.take n) (vs.take n)
 | [], _, n, e => by simp only [ao, gk] at e; subst e; simp [ao, gk]
 | _ :: _, _, 0, _ => by simp [ao, gk]
 | _ :: _, _, n + 1, ⟨v, r, e, h1, h3⟩ => by subst e; exact ⟨v, r.take n, rfl, h1, ao.take n h3⟩
theorem ao.drop : ∀ {cs : List Cell} {vs : List Value} (n : Nat), ao h SA SF β cs vs → ao h SA SF β (cs.drop n) (vs.drop n)
 | [], _, n, e => by simp only [ao, gk] at e; subst e; simp [ao, gk]
 | _ :: _, _, 0, h' => h'
 | _ :: _, _, n + 1, ⟨v, r, e, h1, h3⟩ => by subst e; exact ao.drop n h3
theorem S2.yJ (f : Bool) {f' : Bool} : yG (S2 SA SF f) (S2 SA SF f') := fun _ _ _ _ h => .inl (h.elim id fun h => h.2.elim)
theorem jV : ∀ {t : Ty} {vs : List Value} {x : t.den} {f : Bool}, bm h (S2 SA SF f) t vs x → ao h SA SF β (tR t x f) vs
 | .int _, _, _, _, hr => by have e := hr; simp only [bm] at e; subst e; exact .cons (bm.lT (S2.yJ _) rfl hr) .nil
 | .bool, _, _, _, hr => by have e := hr; simp only [bm] at e; subst e; exact .cons (bm.lT (S2.yJ _) rfl hr) .nil
 | .str, _, _, _, hr => by have e := hr; simp only [bm] at e; subst e; exact .cons (bm.lT (S2.yJ _) rfl hr) .nil
 | .err, _, _, _, hr => by
  have e := hr
  simp only [bm] at e
  rcases e with ⟨_, e⟩ | ⟨_, _, _, e⟩ <;> subst e <;> exact .cons (bm.lT (S2.yJ _) rfl hr) .nil
 | .mp, _, _, _, hr => by have e := hr; simp only [bm] at e; subst e; exact .cons (bm.lT (S2.yJ _) rfl hr) .nil
 | .slice _, _, _, _, hr => by
  have e := hr
  obtain ⟨a, n, c, e, _⟩ := e
  subst e
  exact .cons hr .nil
 | .aI _ _, _, _, _, hr => by
  have e := hr
  obtain ⟨a, n, c, e, _⟩ := e
  subst e
  exact .cons (bm.lT (S2.yJ _) rfl hr) .nil
 | .nil, _, _, _, hr => by simp only [bm] at hr; subst hr; exact .nil
 | .cons a b, _, _, _, ⟨c, d, e, h1, h2⟩ => by subst e; exact (jV h1).append (jV h2)
theorem BN {t : Ty} {c : Cell} {x : t.den} {v : Value} {f : Bool} (H : aG h SA SF β c v) (hx : c.as t = some x) (hf : f = true → c.fr = true) : bm h (S2 SA SF f) t [v] x := by
 unfold Cell.as at hx
 split at hx
 ·rename_i t' y f'
  obtain ⟨rfl, hy⟩ := nZ hx
  cases hy
  exact bm.mono (S2.xq f' f (fun h => by cases f; rfl; simp [Cell.fr] at hf; rw [hf] at h; cases h)) (fun _ _ => rfl) H
 ·split at hx
  ·cases hx
   cases H
   exact ⟨none, 0, 0, rfl, rfl, Nat.le_refl _, .inl rfl⟩
  ·cases hx
   cases H
   exact ⟨none, 0, 0, rfl, rfl, Nat.le_refl _, .inl ⟨rfl, rfl, fun _ => rfl⟩⟩
  ·cases hx
 ·cases hx
theorem oT {t : Ty} {c : Cell} {r rest : List Cell} {x : t.den} {vs : List Value} {f : Bool} (H : ao h SA SF β (c :: r) vs)
  (hx : (c.as t).map (·, r) = some (x, rest)) (hf : f = true → iA (c :: r) = true) :
  ∃ v1 v2, vs = v1 ++ v2 ∧ bm h (S2 SA SF f) t v1 x ∧ ao h SA SF β rest v2 ∧ (f = true → iA rest = true) := by
 obtain ⟨v, vs', rfl, h1, h2⟩ := H
 cases hc : c.as t with
 | none => rw [hc] at hx; cases hx
 | some y =>
  rw [hc] at hx
  cases hx
  simp only [iA, List.all_cons, Bool.and_eq_true] at hf
  exact ⟨[v], vs', rfl, BN h1 hc (fun h => (hf h).1), h2, fun h => (hf h).2⟩
theorem xR : ∀ {t : Ty} {cs rest : List Cell} {x : t.den} {vs : List Value} {f : Bool}, ao h SA SF β cs vs → imp t cs = some (x, rest) → (f = true → iA cs = true) →
  ∃ v1 v2, vs = v1 ++ v2 ∧ bm h (S2 SA SF f) t v1 x ∧ ao h SA SF β rest v2 ∧ (f = true → iA rest = true)
 | .nil, cs, _, _, vs, _, H, hx, hf => by cases hx; exact ⟨[], vs, rfl, rfl, H, hf⟩
 | .cons a b, cs, rest, x, vs, f, H, hx, hf => by
  simp only [imp] at hx
  split at hx
  ·rename_i y r hy
   split at hx
   ·rename_i z r' hz
    cases hx
    obtain ⟨v1, v2, rfl, h1, h2, h3⟩ := xR H hy hf
    obtain ⟨u1, u2, rfl, g1, g2, g3⟩ := xR h2 hz h3
    exact ⟨v1 ++ u1, u2, by rw [List.append_assoc], ⟨v1, u1, rfl, h1, g1⟩, g2, g3⟩
   ·cases hx
  ·cases hx
 | .int k, [], _, _, _, _, _, hx, _ => by cases hx
 | .bool, [], _, _, _, _, _, hx, _ => by cases hx
 | .str, [], _, _, _, _, _, hx, _ => by cases hx
 | .err, [], _, _, _, _, _, hx, _ => by cases hx
 | .mp, [], _, _, _, _, _, hx, _ => by cases hx
 | .slice e, [], _, _, _, _, _, hx, _ => by cases hx
 | .aI _ _, [], _, _, _, _, _, hx, _ => by cases hx
 | .int k, c :: r, _, _, _, _, H, hx, hf => oT H hx hf
 | .bool, c :: r, _, _, _, _, H, hx, hf => oT H hx hf
 | .str, c :: r, _, _, _, _, H, hx, hf => oT H hx hf
 | .err, c :: r, _, _, _, _, H, hx, hf => oT H hx hf
 | .mp, c :: r, _, _, _, _, H, hx, hf => oT H hx hf
 | .slice e, c :: r, _, _, _, _, H, hx, hf => oT H hx hf
 | .aI _ _, c :: r, _, _, _, _, H, hx, hf => oT H hx hf
theorem tr {t : Ty} {cs : List Cell} {x : t.den} {vs : List Value} {f : Bool} (H : ao h SA SF β cs vs) (hx : yq t cs = some x) (hf : f = true → iA cs = true) : bm h (S2 SA SF f) t vs x := by
 unfold yq at hx
 split at hx
 ·cases hx
  rename_i h1
  obtain ⟨v1, v2, rfl, g1, g2, _⟩ := xR H h1 hf
  simp only [ao, gk] at g2
  subst g2
  simpa using g1
 ·cases hx
theorem xS : ∀ (t : Ty) (x : t.den) (f : Bool), f = true → iA (tR t x f) = true
 | .int _, _, _, _ => rfl
 | .bool, _, _, _ => rfl
 | .str, _, _, _ => rfl
 | .err, _, _, _ => rfl
 | .mp, _, _, _ => rfl
 | .nil, _, _, _ => rfl
 | .slice _, _, _, h => by subst h; rfl
 | .aI _ _, _, _, _ => rfl
 | .cons a b, x, f, h => by
  have h1 := xS a x.1 f h
  have h2 := xS b x.2 f h
  simp only [iA, tR, List.all_append, Bool.and_eq_true] at *
  exact ⟨h1, h2⟩
theorem jW : ∀ (t : Ty) (x : t.den) (f : Bool), (tR t x f).length = t.size
 | .int _, _, _ => rfl
 | .bool, _, _ => rfl
 | .str, _, _ => rfl
 | .err, _, _ => rfl
 | .mp, _, _ => rfl
 | .nil, _, _ => rfl
 | .slice _, _, _ => rfl
 | .aI _ _, _, _ => rfl
 | .cons a b, x, f => by simp only [tR, List.length_append, jW a, jW b, Ty.size]
theorem vH {cs : List Cell} (n m : Nat) (h : iA cs = true) : iA ((cs.drop n).take m) = true := by
 simp only [iA, List.all_eq_true] at *
 exact fun x hx => h x (List.mem_of_mem_drop (List.mem_of_mem_take hx))
theorem n6 (S : Loc → Prop) : ∀ t : Ty, bm h S t (lU t) t.vy
 | .int _ => rfl
 | .bool => rfl
 | .str => rfl
 | .err => .inl ⟨rfl, rfl⟩
 | .mp => rfl
 | .nil => rfl
 | .slice _ => ⟨none, 0, 0, rfl, rfl, Nat.le_refl _, .inl rfl⟩
 | .aI _ _ => ⟨none, 0, 0, rfl, rfl, Nat.le_refl _, .inl ⟨rfl, rfl, fun _ => rfl⟩⟩
 | .cons a b => ⟨_, _, rfl, n6 S a, n6 S b⟩
theorem gZ : ∀ t : Ty, ao h SA SF β (zeroCells t) (lU t)
 | .int _ => .cons rfl .nil
 | .bool => .cons rfl .nil
 | .str => .cons rfl .nil
 | .err => .cons (.inl ⟨rfl, rfl⟩) .nil
 | .mp => .cons rfl .nil
 | .nil => .nil
 | .slice _ => .cons rfl .nil
 | .aI _ _ => .cons rfl .nil
 | .cons a b => (gZ a).append (gZ b)
def valOf (agg : Bool) (vs : List Value) : Value := if agg = true then .agg vs.toArray else vs.headD undef
theorem tu {b : Bool} {cs : List Cell} {vs : List Value} {r : SV} (H : ao h SA SF β cs vs) (hr : sv b cs = some r) : eg h SA SF β r (valOf b vs) := by
 unfold sv at hr
 split at hr
 ·cases hr; exact ⟨vs, rfl, H⟩
 ·cases hr
  obtain ⟨v, r, rfl, h1, _⟩ := H
  exact h1
 ·cases hr
theorem NS {cs : List Cell} {r : SV} (hr : sv false cs = some r) : cs.length = 1 := by
 unfold sv at hr
 split at hr
 ·rename_i h; cases h
 ·rfl
 ·cases hr
theorem n7 {r : SV} {v : Value} {cs : List Cell} (H : eg h SA SF β r v) (hc : r.cells = some cs) : ao h SA SF β cs v.cells.toList := by
 cases r with
 | cell c =>
  cases hc
  have := Gy H
  cases v <;> first | exact .cons H .nil | cases this
 | agg l =>
  cases hc
  obtain ⟨vs, rfl, H⟩ := H
  exact H
 | xr l => cases hc
 | undef => cases hc
 | top => cases hc
theorem mV : ∀ (new : List Cell) (k : Nat) (sr : List Cell), k + new.length ≤ sr.length → eK new k sr = sr.take k ++ new ++ sr.drop (k + new.length)
 | [], 0, [], _ => by simp [eK]
 | _ :: _, 0, [], h => by simp at h
 | _, _ + 1, [], h => by simp at h
 | [], 0, o :: r, _ => by simp [eK]
 | n :: ns, 0, o :: r, h => by
  have := mV ns 0 r (by simp at h ⊢; omega)
  simp only [Nat.zero_add, List.take_zero, List.nil_append] at this
  simp [eK, this]
 | new, k + 1, o :: r, h => by
  have := mV new k r (by simp at h ⊢; omega)
  simp [eK, this, Nat.add_right_comm]
theorem lk {new sr : List Cell} {k : Nat} {vs us : List Value} (hk : k + new.length ≤ sr.length) (h1 : ao h SA SF β new vs) (h2 : ao h SA SF β sr us) :
  ao h SA SF β (eK new k sr) (us.take k ++ vs ++ us.drop (k + vs.length)) := by
 rw [mV new k sr hk, h1.len]
 exact ((h2.take k).append h1).append (h2.drop _)
end
end Go.Px
namespace Go.Px
open Go
theorem yK {i : TI} {d : TypeDesc} (h : dq i.d d) : d.isRow = i.isAgg := by
 unfold TI.isAgg
 cases hi : i.d <;> rw [hi] at h <;> cases d <;> first | rfl | (simp only [dq] at h; done) | exact h
theorem Gz {α : Type} (l : List α) (n j s off m : Nat) (hj : j < n) (ho : off + m ≤ s) :
  ((((l.take (n * s)).drop (j * s)).take s).drop off).take m = (l.drop (j * s + off)).take m := by
 have h1 : j * s + s ≤ n * s := by rw [← Nat.succ_mul]; exact Nat.mul_le_mul_right s hj
 apply List.ext_getElem?
 intro k
 simp only [List.getElem?_take, List.getElem?_drop]
 by_cases hk : k < m
 ·rw [if_pos hk, if_pos hk, if_pos (by omega), if_pos (by omega), Nat.add_assoc]
 ·rw [if_neg hk, if_neg hk]
theorem JA {α : Type} (l : List α) (off s fo m : Nat) (h : fo + m ≤ s) : ((((l.drop off).take s).drop fo).take m) = (l.drop (off + fo)).take m := by
 apply List.ext_getElem?
 intro k
 simp only [List.getElem?_take, List.getElem?_drop]
 by_cases hk : k < m
 ·rw [if_pos hk, if_pos hk, if_pos (by omega), Nat.add_assoc]
 ·rw [if_neg hk, if_neg hk]
theorem Dq {w : World} {et : TypeId} {sz g b N c n : Nat} {vs : List Value} (H : w.fc 0 et sz (.slice (some ⟨g, b, none⟩) N c) n vs) :
  n = N ∧ ∃ cur, w.heap[g]? = some (.cells cur et (0, 0)) ∧ b + n * sz ≤ cur.size ∧ (cur.toList.drop b).take (n * sz) = vs ∧ N ≤ c ∧ c ≤ maxLen ∧ b + c * sz ≤ cur.size := by
 obtain ⟨h1, ⟨h2, _⟩ | ⟨g', off, cap, cur, h2, _, h3, h4, h5, h6, h7⟩⟩ := H
 ·cases h2
 ·cases h2
  exact ⟨rfl, cur, h3, Nat.le_trans (Nat.add_le_add_left (Nat.mul_le_mul_right _ h4) _) h6, h7, h4, h5, h6⟩
section
variable {P : Program} {T : Types} {c : Ctx} {β : Nat → Value} {SF : Loc → Prop} {e : Env} {a : Act} {w : World} {ve : Env} [Sub ve e] {d : Nat} (ty : TypeId) (pos : String) (af : Array Edge) (gd : Option (Nat × Bool))
theorem Dr {t t' : Ty} {x : List (Option (List t'.den))} {y : List (Option (List t.den))} (h : Gp t t' x = some y) : t' = t ∧ HEq x y := by
 unfold Gp at h
 split at h
 ·rename_i hb
  have := Ty.eq_of_beq hb
  subst this
  cases h
  exact ⟨rfl, HEq.rfl⟩
 ·cases h
theorem lK {v : Env} {et : Nat} {t : Ty} {bs : List (Option (List t.den))} (h : pv v et t = some bs) : v.obj (an et) = some (.mem t et bs) := by
 unfold pv at h
 split at h
 ·rename_i t' et' bs' ho
  split at h
  ·rename_i hb
   have hb := Nat.eq_of_beq_eq_true hb
   subst hb
   obtain ⟨rfl, hx⟩ := Dr h
   cases hx
   exact ho
  ·cases h
 ·cases h
theorem n8 (H : aC c β SF e a w) {et : Nat} {t : Ty} {bs : List (Option (List t.den))} (h : pv ve et t = some bs) : e.obj (an et) = some (.mem t et bs) ∧ dy w.heap c.SA SF t et bs :=
 ⟨bE (lK h), (H.aY _ _ (bE (lK h))).2⟩
theorem hE {α : Type} {bs : List (Option (List α))} : ∀ {k : Nat}, fI bs k = true → ∃ j, k = j + 1 ∧ bs[j]? = some (some (ak bs k))
 | 0, h => by cases h
 | j + 1, h => by
  refine ⟨j, rfl, ?_⟩
  simp only [fI, ak, List.getD_eq_getElem?_getD] at h ⊢
  cases hb : bs[j]? with
  | none => rw [hb] at h; cases h
  | some x =>
   cases x with
   | none => rw [hb] at h; cases h
   | some xs => rfl
theorem dy.hit {h : Array Obj} {SA : Nat → Prop} {t : Ty} {et k g : Nat} {C : Nat × Nat} {bs : List (Option (List t.den))} (M : dy h SA SF t et bs) (hS : SF (.m et k g C)) (hl : fI bs k = true) :
  ∃ cur, h[g]? = some (.cells cur et (0, 0)) ∧ (ak bs k).length ≤ C.2 ∧ C.2 ≤ maxLen ∧ C.1 + C.2 * t.size ≤ cur.size ∧ b7 (bm h (S2 SA SF true) t) (ak bs k) ((cur.toList.drop C.1).take ((ak bs k).length * t.size)) := by
 obtain ⟨j, rfl, hj⟩ := hE hl
 rcases M.HQ j _ hj with ⟨_, h1⟩ | ⟨g', C', cur, h1, h2, h3, h4, h5, h6⟩
 ·exact absurd hS (h1 g C)
 ·obtain ⟨rfl, rfl⟩ := M.one _ _ _ _ _ hS h1
  exact ⟨cur, h2, h3, h4, h5, h6⟩
theorem JB {α : Type} {bs : List (Option (List α))} {k j : Nat} (h : dO bs k j = true) : fI bs k = true ∧ j < (ak bs k).length := by
 simp only [dO, Bool.and_eq_true, Nat.ble_eq] at h
 exact h
theorem qf (HT : mL P T) {t : Nat} {i : TI} (hi : look T t = some i) {g off : Nat} {arr : Array Value} {et : TypeId} {fz : Nat × Nat} (hg : w.heap[g]? = some (.cells arr et fz))
  (hl : off + i.size ≤ arr.size) (hs : i.isAgg = false → i.size = 1) :
  (Instr.loadAt t (.pointer (some ⟨g, off, none⟩))).run P w = .ok (valOf i.isAgg ((arr.toList.drop off).take i.size)) w := by
 obtain ⟨dd, hd, hdd⟩ := (HT _ _ hi).desc
 obtain ⟨j, hj, hjs, _⟩ := (HT _ _ hi).info
 have hr := yK hdd
 cases hb : i.isAgg
 ·rw [hb] at hr
  have h1 := hs hb
  have hlt : off < arr.size := by omega
  have hagg : (isAgg t).run P w = .ok false w := by
   unfold isAgg
   rw [Sem.run_bind, run_underlying hd w]
   cases dd <;> simp_all
  have hc : w.cell? ⟨g, off, none⟩ = some arr[off] := by rw [cell_of_row w g off arr et fz hg]; simp [hlt]
  have hv : ((arr.toList.drop off).take i.size).headD undef = arr[off] := by
   rw [h1, List.drop_eq_getElem_cons (by simpa using hlt)]
   simp
  simp only [Instr.loadAt, Instr.sureAddr, Sem.run_bind, Sem.run_pure, Result.andThen_ok, loadVar, hagg, valOf]
  rw [hv]
  simp [hc]
 ·rw [hb] at hr
  have hlen : ((arr.toList.drop off).take i.size).length = i.size := by simp; omega
  have := run_loadAt_mid (P := P) w g off t ((arr.toList.drop off).take i.size) dd (fun k v hk => by
   rw [cell_of_row w g _ arr et fz hg]
   rw [List.getElem?_take] at hk
   split at hk
   ·rw [List.getElem?_drop] at hk; simpa using hk
   ·cases hk) hd hr (by rw [hj, hlen]; simp [hjs])
  rw [this]
  rfl
theorem rA {t : TypeId} {x : Operand} {p v : Value} (hx : a.eval x = p) (h : (Instr.loadAt t p).run P w = .ok v w) :
  (execOp a.eval ⟨some d, .load t x, ty, pos, af, gd⟩).run P w = .ok (.value v) w := by
 simp [execOp, hx, h]
theorem uc {b : Bool} {cs : List Cell} {r : SV} (n : Nat) (hr : sv b cs = some r) (hl : cs.length = n) : b = false → n = 1 := fun h => by
 subst h; rw [← hl]; exact NS hr
theorem Fh (HT : mL P T) (H : aC c β SF e a w) (hN : c.ok d) {t : TypeId} {x : Operand} {ef : pq} (h : Bv T ve d t x = some ef) (hok : ef.ok = true) :
  ff P ⟨some d, .load t x, ty, pos, af, gd⟩ a w (Rel c (e.aF ef.ws)) := by
 unfold Bv at h
 split at h
 ·rename_i i o off hi hx
  have hx := aW H hx
  obtain ⟨g, hg, hx⟩ := hx
  split at h
  ·rename_i cs st ho
   have ho := H.aY _ _ (bE ho)
   obtain ⟨g', arr, et, hg', harr, hcs⟩ := ho
   rw [hg] at hg'
   cases hg'
   split at h
   ·rename_i r hr
    split at h
    ·rename_i hle
     cases h
     have hle := Nat.le_of_ble_eq_true hle
     have hlen : arr.size = cs.length := by rw [← Array.length_toList]; exact hcs.len
     exact .pure H rfl hN (rA ty pos af gd hx (qf HT hi harr (by omega) (uc _ hr (by simp; omega)))) (tu ((hcs.drop off).take i.size) hr)
    ·cases h
   ·cases h
  ·cases h
 ·rename_i i o t' j off hi hx
  obtain ⟨g, b0, N, cc, hg, hj, hx⟩ := aW H hx
  split at h
  ·rename_i t'' et xs f st ho
   obtain ⟨vs, ho, hch⟩ := H.aY _ _ (bE ho)
   split at h
   ·rename_i hb
    have hb := Ty.eq_of_beq hb
    subst hb
    split at h
    ·rename_i r hr
     split at h
     ·rename_i hle
      cases h
      have hle := Nat.le_of_ble_eq_true hle
      rw [hg] at ho
      obtain ⟨hn, cur, hcur, hcs, htake, _⟩ := Dq ho
      have hjl : j < xs.length := by omega
      have hb2 : (j + 1) * t''.size ≤ xs.length * t''.size := Nat.mul_le_mul_right _ hjl
      rw [Nat.succ_mul] at hb2
      have hrep := jV (β := β) (hch.at_ j hjl)
      rw [← htake] at hrep
      have hrep := (hrep.drop off).take i.size
      rw [Gz _ _ _ _ _ _ hjl hle, List.drop_drop] at hrep
      exact .pure H rfl hN (rA ty pos af gd hx (qf HT hi hcur (by omega) (uc _ hr (by simp [jW]; omega)))) (tu hrep hr)
     ·cases h
    ·cases h
   ·cases h
  ·cases h
 ·rename_i i t' x' f hi hx0
  obtain ⟨g, off, arr, et, fz, hx, _, harr, hle, hrep⟩ := aW H hx0
  split at h
  ·rename_i hb
   have hb := Ty.eq_of_beq hb
   subst hb
   split at h
   ·rename_i r hr
    cases h
    have hsz := (HT _ _ hi).size
    rw [hsz] at hle hrep
    exact .pure H rfl hN (rA ty pos af gd hx (qf HT hi harr hle (uc _ hr (by rw [jW, hsz])))) (tu (jV (β := β) hrep) hr)
   ·cases h
  ·cases h
 ·rename_i i et t' k j off hi hx0
  obtain ⟨g, C, hS, hx⟩ := aW H hx0
  split at h
  ·rename_i bs hbs
   split at h
   ·rename_i r hr
    split at h
    ·rename_i hle
     cases h
     have hle := Nat.le_of_ble_eq_true hle
     obtain ⟨hl, hj⟩ := JB hok
     obtain ⟨cur, hcur, h1, h2, h3, hch⟩ := (n8 H hbs).2.hit hS hl
     have hb1 : (j + 1) * t'.size ≤ (ak bs k).length * t'.size := Nat.mul_le_mul_right _ hj
     have hb2 : (ak bs k).length * t'.size ≤ C.2 * t'.size := Nat.mul_le_mul_right _ h1
     rw [Nat.succ_mul] at hb1
     have hrep := ((jV (β := β) (hch.at_ j hj)).drop off).take i.size
     rw [Gz _ _ _ _ _ _ hj hle, List.drop_drop] at hrep
     exact .pure H rfl hN (rA ty pos af gd hx (qf HT hi hcur (by omega) (uc _ hr (by simp [jW]; omega)))) (tu hrep hr)
    ·cases h
   ·cases h
  ·cases h
 ·cases h
theorem yL {fields : Array Field} {fs : List (Nat × Nat)} (hf : fs = fields.toList.map fun f => (f.offset, f.type)) {k fo ft : Nat} (h : fs[k]? = some (fo, ft)) :
  ∃ f, fields[k]? = some f ∧ f.offset = fo ∧ f.type = ft := by
 subst hf
 simp only [List.getElem?_map, Array.getElem?_toList, Option.map_eq_some_iff, Prod.mk.injEq] at h
 obtain ⟨f, h1, h2⟩ := h
 exact ⟨f, h1, h2.1, h2.2⟩
theorem HR (HT : mL P T) {s : TypeId} {i fi : TI} {fs : List (Nat × Nat)} {k fo ft : Nat} (hi : look T s = some i) (hd : i.d = .struct fs) (hf : fs[k]? = some (fo, ft)) (hfi : look T ft = some fi)
  (h1 : 1 ≤ fi.size) (g off : Nat) : (Instr.fieldAt s (.pointer (some ⟨g, off, none⟩)) k).run P w = .ok (.pointer (some ⟨g, off + fo, none⟩)) w := by
 obtain ⟨dd, hu, hdd⟩ := (HT _ _ hi).desc
 rw [hd] at hdd
 cases dd <;> simp only [dq] at hdd
 obtain ⟨f, hk, rfl, rfl⟩ := yL hdd hf
 obtain ⟨j, hj, hjs, _⟩ := (HT _ _ hfi).info
 have hnz : j.size ≠ 0 := by omega
 simp [Instr.fieldAt, run_underlying hu, hk, Instr.sureAddr, fieldPlace, sizeOf, typeInfo, hj, hnz, Addr.add_mid]
theorem xu (HT : mL P T) (H : aC c β SF e a w) (hN : c.ok d) {s : TypeId} {x : Operand} {k : Nat} {ef : pq} (h : yt T ve d s x k = some ef) :
  ff P ⟨some d, .fieldAddr s x k, ty, pos, af, gd⟩ a w (Rel c (e.aF ef.ws)) := by
 unfold yt at h
 split at h
 ·rename_i i hi
  split at h
  ·rename_i fs hd
   split at h
   ·rename_i fo ft hf
    split at h
    ·rename_i fi hfi
     split at h
     ·rename_i h1
      have h1 := Nat.le_of_ble_eq_true h1
      have hrun : ∀ g off, a.eval x = .pointer (some ⟨g, off, none⟩) →
        (execOp a.eval ⟨some d, .fieldAddr s x k, ty, pos, af, gd⟩).run P w = .ok (.value (.pointer (some ⟨g, off + fo, none⟩))) w := fun g off hx => by
       simp [execOp, hx, HR HT hi hd hf hfi h1 g off]
      split at h
      ·rename_i o off hx
       cases h
       obtain ⟨g, hg, hx⟩ := aW H hx
       exact .pure (x := .cell (.ptr o (off + fo))) H rfl hN (hrun _ _ hx) ⟨g, hg, rfl⟩
      ·rename_i o t j off hx
       cases h
       obtain ⟨g, b, N, cc, hg, hj, hx⟩ := aW H hx
       exact .pure (x := .cell (.xQ o t j (off + fo))) H rfl hN (hrun _ _ hx) ⟨g, b, N, cc, hg, hj, by rw [Nat.add_assoc, Nat.add_assoc]⟩
      ·rename_i et t k j off hx
       cases h
       obtain ⟨g, C, hS, hx⟩ := aW H hx
       exact .pure (x := .cell (.ad et t k j (off + fo))) H rfl hN (hrun _ _ hx) ⟨g, C, hS, by rw [Nat.add_assoc, Nat.add_assoc]⟩
      ·rename_i t y fr hx0
       obtain ⟨g, off, arr, et, fz, hx, hS, harr, hle, hrep⟩ := aW H hx0
       split at h
       ·rename_i hb
        simp only [Bool.and_eq_true, Nat.ble_eq] at hb
        have hb1 := Ty.eq_of_beq hb.1
        subst hb1
        split at h
        ·rename_i z hz
         cases h
         have hsz := (HT _ _ hi).size
         have hszf := (HT _ _ hfi).size
         have hr := ((jV (β := β) hrep).drop fo).take fi.size
         have hr := tr (f := fr) hr hz (fun hf => vH _ _ (xS _ _ _ hf))
         refine .pure (x := .cell (.lj fi.ty z fr)) H rfl hN (hrun _ _ hx) ⟨g, off + fo, arr, et, fz, rfl, hS, harr, by omega, ?_⟩
         rw [hszf]
         rw [← JA arr.toList off i.ty.size fo fi.size (by omega)]
         exact hr
        ·cases h
       ·cases h
      ·cases h
     ·cases h
    ·cases h
   ·cases h
  ·cases h
 ·cases h
end
end Go.Px
namespace Go.Px
open Go
section
variable {P : Program} {T : Types} {c : Ctx} {β : Nat → Value} {SF : Loc → Prop} {e : Env} {a : Act} {w : World} {ve : Env} [Sub ve e] {d : Nat} (ty : TypeId) (pos : String) (af : Array Edge) (gd : Option (Nat × Bool))
theorem rB (HT : mL P T) {t el : Nat} {i ei : TI} (hi : look T t = some i) (hd : i.d = .slice el) (hei : look T el = some ei) {g off N cap : Nat} {k : IntKind} {n : Int} (h0 : 0 ≤ n) (h1 : n < N) :
  (Instr.indexAt t (.slice (some ⟨g, off, none⟩) N cap) (.int k n)).run P w = .ok (.pointer (some ⟨g, off + n.toNat * ei.size, none⟩)) w := by
 obtain ⟨dd, hu, hdd⟩ := (HT _ _ hi).desc
 rw [hd] at hdd
 cases dd <;> simp only [dq] at hdd
 subst hdd
 obtain ⟨j, hj, hjs, _⟩ := (HT _ _ hei).info
 simp [Instr.indexAt, asIntOf, run_underlying hu, h0, h1, sizeOf, typeInfo, hj, hjs, Addr.add_mid]
theorem rC {α : Type} (xs : List α) (A B : Nat) : ((xs.take B).drop A).length = min B xs.length - A := by simp
theorem ud {i n : Int} : bQ i n = true ↔ 0 ≤ i ∧ i < n := by simp [bQ]
theorem xv (HT : mL P T) (H : aC c β SF e a w) (hN : c.ok d) {t : TypeId} {x y : Operand} {ef : pq} (h : yu T ve d t x y = some ef) (hok : ef.ok = true) :
  ff P ⟨some d, .indexAddr t x y, ty, pos, af, gd⟩ a w (Rel c (e.aF ef.ws)) := by
 unfold yu at h
 split at h
 ·rename_i i cl k n hi hx hy
  have hx := aW H hx
  have hy := dN H hy
  split at h
  ·rename_i el t' xs f hd _
   split at h
   ·rename_i ei hei
    split at h
    ·rename_i hb
     have hb := Ty.eq_of_beq hb
     subst hb
     cases h
     obtain ⟨h0, h1⟩ := ud.1 hok
     obtain ⟨A, N, cap, hv, hN1, hNc, hrow⟩ := hx
     have hv : a.eval x = .slice A N cap := by simpa using hv
     rcases hrow with hz | ⟨g, off, arr, et, fz, rfl, hS, harr, hle, hch⟩
     ·omega
     ·have hn : n.toNat < N := by omega
      have hnx : n.toNat < List.length (α := ei.ty.den) xs := by omega
      have hb2 : (n.toNat + 1) * ei.ty.size ≤ N * ei.ty.size := Nat.mul_le_mul_right _ hn
      rw [Nat.succ_mul] at hb2
      have hsz := (HT _ _ hei).size
      refine .pure (x := .cell (.lj ei.ty (rd xs n) f)) H rfl hN (v := .pointer (some ⟨g, off + n.toNat * ei.size, none⟩)) ?_ ⟨g, _, arr, et, fz, rfl, hS, harr, by rw [← hsz]; omega, ?_⟩
      ·simp [execOp, hv, hy, rB HT hi hd hei h0 (by omega : n < N)]
      ·have := hch.at_ n.toNat hnx
       rw [hsz] at this ⊢
       rw [← JA arr.toList off (N * ei.size) (n.toNat * ei.size) ei.size (by rw [← hsz]; omega)]
       exact this
    ·cases h
   ·cases h
  ·rename_i el et t' xh f hd _
   split at h
   ·rename_i ei hei
    split at h
    ·rename_i hb
     have hb := Ty.eq_of_beq hb
     subst hb
     cases h
     obtain ⟨h0, h1⟩ := ud.1 hok
     obtain ⟨A, N, cap, hv, hN1, hNc, hrow⟩ := hx
     have hv : a.eval x = .slice A N cap := by simpa using hv
     rcases hrow with ⟨hz, _⟩ | ⟨g, C, rfl, hle, hS⟩
     ·omega
     ·have hsz := (HT _ _ hei).size
      refine .pure (x := .cell (.ad et ei.ty xh.1 (xh.2.1 + n.toNat) 0)) H rfl hN (v := .pointer (some ⟨g, C.1 + xh.2.1 * ei.ty.size + n.toNat * ei.size, none⟩)) ?_ ⟨g, C, hS.elim id fun h => h.2.elim, by rw [hsz, Nat.add_mul]; simp [Nat.add_assoc]⟩
      simp [execOp, hv, hy, rB HT hi hd hei h0 (by omega : n < N)]
    ·cases h
   ·cases h
  ·rename_i el o hd _
   split at h
   ·rename_i t' et xs f st ei ho hei
    split at h
    ·rename_i hb
     have hb := Ty.eq_of_beq hb
     subst hb
     cases h
     obtain ⟨h0, h1⟩ := ud.1 hok
     obtain ⟨vs, ho, hch⟩ := H.aY _ _ (bE ho)
     obtain ⟨hx, A, N, cap, hv⟩ := hx
     rw [← hx, hv] at ho
     rcases ho with ⟨ho1, ⟨ho2, ho3⟩ | ⟨g, b0, cap', cur, ho2, ho3⟩⟩
     ·omega
     ·cases ho2
      have hsz := (HT _ _ hei).size
      refine .pure (x := .cell (.xQ o ei.ty n.toNat 0)) H rfl hN (v := .pointer (some ⟨g, b0 + n.toNat * ei.size, none⟩)) ?_ ⟨g, b0, _, cap, by rw [← hx, hv], by omega, by rw [hsz]; simp⟩
      simp [execOp, hv, hy, rB HT hi hd hei h0 h1]
    ·cases h
   ·cases h
  ·rename_i el o t' lo m hd _
   split at h
   ·rename_i tt et xs f st ei ho hei
    split at h
    ·rename_i hb
     have hb := Ty.eq_of_beq hb
     subst hb
     cases h
     obtain ⟨h0, h1⟩ := ud.1 hok
     obtain ⟨A, N, cap, hβ, hlo, hNc, hv⟩ := hx
     obtain ⟨vs, ho, hch⟩ := H.aY _ _ (bE ho)
     rw [hβ] at ho
     rcases ho with ⟨ho1, ⟨ho2, ho3⟩ | ⟨g, b0, cap', cur, ho2, ho3⟩⟩
     ·cases ho2
      omega
     ·cases ho2
      have hsz := (HT _ _ hei).size
      rw [if_neg (by omega)] at hv
      simp only [Option.map_some, Addr.add_mid] at hv
      refine .pure (x := .cell (.xQ o ei.ty (lo + n.toNat) 0)) H rfl hN (v := .pointer (some ⟨g, b0 + lo * ei.ty.size + n.toNat * ei.size, none⟩)) ?_ ⟨g, b0, _, cap, hβ, by omega, ?_⟩
      ·simp [execOp, hv, hy, rB HT hi hd hei h0 h1]
      ·rw [hsz, Nat.add_mul]; simp [Nat.add_assoc]
    ·cases h
   ·cases h
  ·cases h
 ·cases h
theorem ue (H : aC c β SF e a w) {o : Option Operand} {dft n : Int} (h : fj ve o dft = some n) :
  (o = none ∧ n = dft) ∨ ∃ y k, o = some y ∧ a.eval y = .int k n := by
 unfold fj at h
 split at h
 ·cases h; exact .inl ⟨rfl, rfl⟩
 ·split at h
  ·rename_i y _ k n' hy
   cases h
   exact .inr ⟨y, k, rfl, dN H hy⟩
  ·cases h
theorem yM (H : aC c β SF e a w) {lo hi : Option Operand} {A B : Int} {len cap : Nat} (isS : Bool) (h1 : fj ve lo 0 = some A) (h2 : fj ve hi (len : Nat) = some B)
  (hok : ba A B (len : Nat) = true) (hc : len ≤ cap) :
  (Instr.sliceBounds isS len cap (lo.map a.eval) (hi.map a.eval) none).run P w = .ok (A.toNat, B.toNat, cap) w := by
 simp only [ba, Bool.and_eq_true, decide_eq_true_eq] at hok
 obtain ⟨h3, h4, h5⟩ := hok
 have e1 : (B.toNat : Int) = B := Int.toNat_of_nonneg (by omega)
 rcases ue H h1 with ⟨rfl, rfl⟩ | ⟨y, k, rfl, hy⟩ <;> rcases ue H h2 with ⟨rfl, rfl⟩ | ⟨z, k', rfl, hz⟩
 ·simp [Instr.sliceBounds]
 ·simp only [Instr.sliceBounds, Option.map_some, Option.map_none, hz, Sem.run_bind, Sem.run_pure, Result.andThen_ok, run_sliceBound w k' B cap _ (by omega) (by omega)]
  rfl
 ·simp only [Instr.sliceBounds, Option.map_some, Option.map_none, hy, Sem.run_bind, Sem.run_pure, Result.andThen_ok, run_sliceBound w k A len _ (by omega) (by omega)]
  simp
 ·simp only [Instr.sliceBounds, Option.map_some, hy, hz, Sem.run_bind, Sem.run_pure, Result.andThen_ok, run_sliceBound w k' B cap _ (by omega) (by omega), run_sliceBound w k A B.toNat _ (by omega) (by omega)]
theorem rD (HT : mL P T) (H : aC c β SF e a w) {t el : Nat} {i ei : TI} (hi : look T t = some i) (hd : i.d = .slice el) (hei : look T el = some ei) {lo hi' : Option Operand} {A B : Int} {len cap : Nat} {x : Operand} {ad : Option Addr}
  (h1 : fj ve lo 0 = some A) (h2 : fj ve hi' (len : Nat) = some B) (hok : ba A B (len : Nat) = true) (hc : len ≤ cap) (hx : a.eval x = .slice ad len cap) :
  (execOp a.eval ⟨some d, .slice t x lo hi' none, ty, pos, af, gd⟩).run P w =
   .ok (.value (.slice (if cap = A.toNat then ad else ad.map (·.add (A.toNat * ei.size))) (B.toNat - A.toNat) (cap - A.toNat))) w := by
 obtain ⟨dd, hu, hdd⟩ := (HT _ _ hi).desc
 rw [hd] at hdd
 cases dd <;> simp only [dq] at hdd
 subst hdd
 obtain ⟨j, hj, hjs, _⟩ := (HT _ _ hei).info
 simp only [execOp, Instr.sliceAt, Instr.slice, hx, Sem.run_bind, run_underlying hu, Result.andThen_ok, Option.map_none, yM H true h1 h2 hok hc]
 simp [sizeOf, typeInfo, hj, hjs]
theorem tv (HT : mL P T) (H : aC c β SF e a w) {t el : Nat} {i ei : TI} (hi : look T t = some i) (hd : i.d = .slice el) (hei : look T el = some ei) {lo hi' : Option Operand} {m : Operand} {A B K : Int} {len cap : Nat} {x : Operand} {ad : Option Addr}
  (h1 : fj ve lo 0 = some A) (h2 : fj ve hi' (len : Nat) = some B) (hs : hi'.isSome = true) (h3 : fj ve (some m) (len : Nat) = some K) (hok : ba A B K = true) (hk : K ≤ (len : Nat)) (hc : len ≤ cap) (hx : a.eval x = .slice ad len cap) :
  (execOp a.eval ⟨some d, .slice t x lo hi' (some m), ty, pos, af, gd⟩).run P w =
   .ok (.value (.slice (if K.toNat = A.toNat then ad else ad.map (·.add (A.toNat * ei.size))) (B.toNat - A.toNat) (K.toNat - A.toNat))) w := by
 obtain ⟨dd, hu, hdd⟩ := (HT _ _ hi).desc
 rw [hd] at hdd
 cases dd <;> simp only [dq] at hdd
 subst hdd
 obtain ⟨j, hj, hjs, _⟩ := (HT _ _ hei).info
 simp only [ba, Bool.and_eq_true, decide_eq_true_eq] at hok
 obtain ⟨h4, h5, h6⟩ := hok
 have hb : (Instr.sliceBounds true len cap (lo.map a.eval) (hi'.map a.eval) (some (a.eval m))).run P w = .ok (A.toNat, B.toNat, K.toNat) w := by
  rcases ue H h3 with ⟨h, _⟩ | ⟨y, k, hy, hv⟩
  ·cases h
  ·cases hy
   rcases ue H h2 with ⟨rfl, _⟩ | ⟨z, k', rfl, hz⟩
   ·cases hs
   ·rcases ue H h1 with ⟨rfl, rfl⟩ | ⟨z', k2, rfl, hz'⟩
    ·simp only [Instr.sliceBounds, Option.map_some, Option.map_none, hv, hz, Sem.run_bind, Sem.run_pure, Result.andThen_ok, run_sliceBound w k K cap _ (by omega) (by omega), run_sliceBound w k' B K.toNat _ (by omega) (by omega)]
     rfl
    ·simp only [Instr.sliceBounds, Option.map_some, hv, hz, hz', Sem.run_bind, Sem.run_pure, Result.andThen_ok, run_sliceBound w k K cap _ (by omega) (by omega), run_sliceBound w k' B K.toNat _ (by omega) (by omega), run_sliceBound w k2 A B.toNat _ (by omega) (by omega)]
 simp only [execOp, Instr.sliceAt, Instr.slice, hx, Sem.run_bind, run_underlying hu, Result.andThen_ok, Option.map_some, hb]
 simp [sizeOf, typeInfo, hj, hjs]
theorem Ds (HT : mL P T) (H : aC c β SF e a w) (hN : c.ok d) {t : TypeId} {x : Operand} {lo hi mx : Option Operand} {ef : pq} (h : yv T ve d t x lo hi mx = some ef) (hok : ef.ok = true) (hF : mx.isSome = true → ¬ ua e (nm d 0)) :
  ff P ⟨some d, .slice t x lo hi mx, ty, pos, af, gd⟩ a w (Rel c (e.aF ef.ws)) := by
 unfold yv at h
 split at h
 ·rename_i i cl hti hx
  have hx := aW H hx
  split at h
  ·rename_i s f n hd _ hn
   have hs := mU hx
   split at h
   ·rename_i A B hA hB
    cases h
    have hn : ((ByteArray.size s : Nat) : Int) = n := Option.some.inj hn
    subst hn
    obtain ⟨dd, hu, hdd⟩ := (HT _ _ hti).desc
    rw [hd] at hdd
    cases dd <;> simp only [dq] at hdd
    refine .pure (x := .cell (.val .str (ByteArray.extract s A.toNat B.toNat) true)) H rfl hN (v := .string (s.extract A.toNat B.toNat)) ?_ rfl
    have hb := yM (P := P) H false hA hB hok (Nat.le_refl _)
    simp only [execOp, Instr.sliceAt, Instr.slice, hs, Sem.run_bind, run_underlying hu, Result.andThen_ok, Option.map_none, Option.isSome_none]
    simp only [Bool.false_eq_true, if_false, Sem.run_pure, Sem.run_bind]
    erw [hb]
    rfl
   ·cases h
  ·rename_i el t' xs f n hd _ hn
   split at h
   ·rename_i ei A B hei hA hB
    split at h
    ·rename_i hb
     have hb := Ty.eq_of_beq hb
     subst hb
     cases h
     obtain ⟨ad, N, cap, hv, hl, hNc, hrow⟩ := hx
     simp only [List.cons.injEq, and_true] at hv
     have hn : ((List.length (α := ei.ty.den) xs : Nat) : Int) = n := Option.some.inj hn
     rw [hl] at hn
     subst hn
     have hsz := (HT _ _ hei).size
     refine .pure (x := .cell (.val (.slice ei.ty) _ f)) H rfl hN (rD ty pos af gd HT H hti hd hei hA hB hok hNc hv) ?_
     simp only [ba, Bool.and_eq_true, decide_eq_true_eq] at hok
     refine ⟨_, _, _, rfl, ?_, by omega, ?_⟩
     ·have : List.length (α := ei.ty.den) xs = N := hl
      refine Eq.trans (rC (α := ei.ty.den) xs A.toNat B.toNat) ?_
      omega
     ·rcases hrow with rfl | ⟨g, off, arr, et, fz, rfl, hS, harr, hle, hch⟩
      ·exact .inl (by omega)
      ·by_cases hz : B.toNat - A.toNat = 0
       ·exact .inl hz
       ·refine .inr ⟨g, off + A.toNat * ei.size, arr, et, fz, ?_, hS, harr, ?_, ?_⟩
        ·rw [if_neg (by omega), Option.map_some, Addr.add_mid]
        ·have : (A.toNat + (B.toNat - A.toNat)) * ei.ty.size ≤ N * ei.ty.size := Nat.mul_le_mul_right _ (by omega)
         rw [Nat.add_mul] at this
         rw [← hsz]
         omega
        ·have h3 := (hch.take B.toNat).drop A.toNat
         have e1 : (List.take (B.toNat * ei.ty.size) (List.take (N * ei.ty.size) (List.drop off arr.toList))).drop (A.toNat * ei.ty.size) =
           List.take ((B.toNat - A.toNat) * ei.ty.size) (List.drop (off + A.toNat * ei.size) arr.toList) := by
          have : B.toNat * ei.ty.size ≤ N * ei.ty.size := Nat.mul_le_mul_right _ (by omega)
          rw [← hsz, List.take_take, Nat.min_eq_left this, List.drop_take, List.drop_drop, Nat.sub_mul]
         rw [← e1]
         exact h3
    ·cases h
   ·cases h
  ·rename_i el et t' xh f n hd _ hn
   split at h
   ·rename_i ei A B hei hA hB
    split at h
    ·rename_i hb
     have hb := Ty.eq_of_beq hb
     subst hb
     cases h
     obtain ⟨ad, N, cap, hv, hl, hNc, hrow⟩ := hx
     simp only [List.cons.injEq, and_true] at hv
     have hn : ((xh.2.2 : Nat) : Int) = n := Option.some.inj hn
     rw [hl] at hn
     subst hn
     have hsz := (HT _ _ hei).size
     refine .pure (x := .cell (.val (.aI et ei.ty) _ f)) H rfl hN (rD ty pos af gd HT H hti hd hei hA hB hok hNc hv) ?_
     simp only [ba, Bool.and_eq_true, decide_eq_true_eq] at hok
     refine ⟨_, _, _, rfl, rfl, by omega, ?_⟩
     rcases hrow with ⟨hz, hz', hz2⟩ | ⟨g, C, rfl, hle, hS⟩
     ·have e1 : A.toNat = 0 := by omega
      refine .inl ⟨by omega, by omega, fun h => ?_⟩
      rw [if_pos (by omega)]
      exact hz2 (by change xh.2.1 + A.toNat = 0 at h; omega)
     ·by_cases hc : cap = A.toNat
      ·by_cases h0 : A.toNat = 0
       ·refine .inr ⟨g, C, ?_, by show xh.2.1 + A.toNat + _ ≤ C.2; omega, hS⟩
        show _ = some (⟨g, C.1 + (xh.2.1 + A.toNat) * ei.ty.size, none⟩ : Addr)
        rw [if_pos hc, h0, Nat.add_zero]
       ·exact .inl ⟨by omega, by omega, fun h => by change xh.2.1 + A.toNat = 0 at h; omega⟩
      ·refine .inr ⟨g, C, ?_, by show xh.2.1 + A.toNat + _ ≤ C.2; omega, hS⟩
       show _ = some (⟨g, C.1 + (xh.2.1 + A.toNat) * ei.ty.size, none⟩ : Addr)
       rw [if_neg hc, Option.map_some, Addr.add_mid, hsz, Nat.add_mul, Nat.add_assoc]
    ·cases h
   ·cases h
  ·rename_i el n hd _ hn
   split at h
   ·rename_i ei A B hei hA hB
    cases h
    have hx' : a.eval x = .slice none 0 0 := hx
    have hok' : ba A B ((0 : Nat) : Int) = true := hok
    refine .pure (x := .cell .nil) H rfl hN (rD ty pos af gd HT H hti hd hei hA hB hok' (Nat.le_refl 0) hx') ?_
    simp only [ba, Bool.and_eq_true, decide_eq_true_eq] at hok
    have e1 : A.toNat = 0 := by omega
    have e2 : B.toNat = 0 := by omega
    rw [e1, e2]
    rfl
   ·cases h
  ·rename_i el o n hd _ hn
   split at h
   ·rename_i t' et xs f st ei A B ho hei hA hB
    split at h
    ·rename_i hb
     have hb := Ty.eq_of_beq hb
     subst hb
     have hlo : QD lo A = A.toNat := by
      cases lo with
      | none => cases hA; rfl
      | some y => rfl
     rw [hlo] at h
     cases h
     have hn : ((xs.length : Nat) : Int) = n := by
      unfold lenOf at hn
      simp only [ho] at hn
      exact Option.some.inj hn
     subst hn
     obtain ⟨vs, ho, hch⟩ := H.aY _ _ (bE ho)
     obtain ⟨hx, ad, N, cap, hv⟩ := hx
     have hsz := (HT _ _ hei).size
     have hNn : N = xs.length ∧ N ≤ cap := by
      rw [← hx, hv] at ho
      rcases ho with ⟨ho1, ⟨ho2, ho3⟩ | ⟨g, b0, cap', cur, ho2, ho3, ho4, ho5, ho6⟩⟩
      ·cases ho2; exact ⟨ho3.symm, Nat.le_refl _⟩
      ·cases ho2; exact ⟨rfl, ho5⟩
     obtain ⟨rfl, hNc⟩ := hNn
     refine .pure (x := .cell (.part o ei.ty A.toNat (B.toNat - A.toNat))) H rfl hN (rD ty pos af gd HT H hti hd hei hA hB hok hNc hv) ?_
     simp only [ba, Bool.and_eq_true, decide_eq_true_eq] at hok
     exact ⟨ad, xs.length, cap, by rw [← hx, hv], by omega, hNc, by rw [hsz]⟩
    ·cases h
   ·cases h
  ·cases h
 ·rename_i i cl m hti hx
  have hx := aW H hx
  split at h
  ·rename_i el t' xs f n hd _ hn
   split at h
   ·rename_i ei A B K hei hA hB hK
    split at h
    ·rename_i hb
     rw [Bool.and_eq_true] at hb
     obtain ⟨hb, hsm⟩ := hb
     have hb := Ty.eq_of_beq hb
     subst hb
     cases h
     obtain ⟨ad, N, cap, hv, hl, hNc, hrow⟩ := hx
     simp only [List.cons.injEq, and_true] at hv
     have hn : ((List.length (α := ei.ty.den) xs : Nat) : Int) = n := Option.some.inj hn
     rw [hl] at hn
     subst hn
     have hsz := (HT _ _ hei).size
     simp only [Bool.and_eq_true, decide_eq_true_eq] at hok
     obtain ⟨hok, hKn⟩ := hok
     refine .pure (x := .cell (.val (.slice ei.ty) _ f)) H rfl hN (tv ty pos af gd HT H hti hd hei hA hB hsm hK hok hKn hNc hv) ?_
     simp only [ba, Bool.and_eq_true, decide_eq_true_eq] at hok
     refine ⟨_, _, _, rfl, ?_, by omega, ?_⟩
     ·have : List.length (α := ei.ty.den) xs = N := hl
      refine Eq.trans (rC (α := ei.ty.den) xs A.toNat B.toNat) ?_
      omega
     ·rcases hrow with rfl | ⟨g, off, arr, et, fz, rfl, hS, harr, hle, hch⟩
      ·exact .inl (by omega)
      ·by_cases hz : B.toNat - A.toNat = 0
       ·exact .inl hz
       ·refine .inr ⟨g, off + A.toNat * ei.size, arr, et, fz, ?_, hS, harr, ?_, ?_⟩
        ·rw [if_neg (by omega), Option.map_some, Addr.add_mid]
        ·have : (A.toNat + (B.toNat - A.toNat)) * ei.ty.size ≤ N * ei.ty.size := Nat.mul_le_mul_right _ (by omega)
         rw [Nat.add_mul] at this
         rw [← hsz]
         omega
        ·have h3 := (hch.take B.toNat).drop A.toNat
         have e1 : (List.take (B.toNat * ei.ty.size) (List.take (N * ei.ty.size) (List.drop off arr.toList))).drop (A.toNat * ei.ty.size) =
           List.take ((B.toNat - A.toNat) * ei.ty.size) (List.drop (off + A.toNat * ei.size) arr.toList) := by
          have : B.toNat * ei.ty.size ≤ N * ei.ty.size := Nat.mul_le_mul_right _ (by omega)
          rw [← hsz, List.take_take, Nat.min_eq_left this, List.drop_take, List.drop_drop, Nat.sub_mul]
         rw [← e1]
         exact h3
    ·cases h
   ·cases h
  ·rename_i el et t' xh f n hd _ hn
   split at h
   ·rename_i ei A B K hei hA hB hK
    split at h
    ·rename_i hb
     rw [Bool.and_eq_true] at hb
     obtain ⟨hb, hsm⟩ := hb
     have hb := Ty.eq_of_beq hb
     subst hb
     cases h
     obtain ⟨ad, N, cap, hv, hl, hNc, hrow⟩ := hx
     simp only [List.cons.injEq, and_true] at hv
     have hn : ((xh.2.2 : Nat) : Int) = n := Option.some.inj hn
     rw [hl] at hn
     subst hn
     have hsz := (HT _ _ hei).size
     simp only [Bool.and_eq_true, decide_eq_true_eq] at hok
     obtain ⟨hok, hKn⟩ := hok
     refine .pure (x := .cell (.val (.aI et ei.ty) _ f)) H rfl hN (tv ty pos af gd HT H hti hd hei hA hB hsm hK hok hKn hNc hv) ?_
     simp only [ba, Bool.and_eq_true, decide_eq_true_eq] at hok
     refine ⟨_, _, _, rfl, rfl, by omega, ?_⟩
     rcases hrow with ⟨hz, hz', hz2⟩ | ⟨g, C, rfl, hle, hS⟩
     ·have e1 : A.toNat = 0 := by omega
      refine .inl ⟨by omega, by omega, fun h => ?_⟩
      rw [if_pos (by omega)]
      exact hz2 (by change xh.2.1 + A.toNat = 0 at h; omega)
     ·by_cases hc : K.toNat = A.toNat
      ·by_cases h0 : A.toNat = 0
       ·refine .inr ⟨g, C, ?_, by show xh.2.1 + A.toNat + _ ≤ C.2; omega, hS⟩
        show _ = some (⟨g, C.1 + (xh.2.1 + A.toNat) * ei.ty.size, none⟩ : Addr)
        rw [if_pos hc, h0, Nat.add_zero]
       ·exact .inl ⟨by omega, by omega, fun h => by change xh.2.1 + A.toNat = 0 at h; omega⟩
      ·refine .inr ⟨g, C, ?_, by show xh.2.1 + A.toNat + _ ≤ C.2; omega, hS⟩
       show _ = some (⟨g, C.1 + (xh.2.1 + A.toNat) * ei.ty.size, none⟩ : Addr)
       rw [if_neg hc, Option.map_some, Addr.add_mid, hsz, Nat.add_mul, Nat.add_assoc]
    ·cases h
   ·cases h
  ·rename_i el o n hd _ hn
   split at h
   ·rename_i t' et xs f st ei B K ho hei hB hK
    split at h
    ·rename_i hb
     simp only [Bool.and_eq_true, Bool.or_eq_true, Nat.beq_eq] at hb
     obtain ⟨hb, hlo, hsm, hst⟩ := hb
     have hb := Ty.eq_of_beq hb
     subst hb
     obtain rfl := Option.isNone_iff_eq_none.1 hlo
     cases h
     have hn : ((xs.length : Nat) : Int) = n := by
      unfold lenOf at hn
      simp only [ho] at hn
      exact Option.some.inj hn
     subst hn
     have ho := bE (e := e) ho
     obtain ⟨vs, how, hch⟩ := H.aY _ _ ho
     obtain ⟨hx, ad, N, cap, hv⟩ := hx
     have hv' : β o = .slice ad N cap := by rw [← hx, hv]
     have hsz := (HT _ _ hei).size
     simp only [Bool.and_eq_true, decide_eq_true_eq] at hok
     obtain ⟨hok, hKn⟩ := hok
     have hNn : N = xs.length ∧ N ≤ cap := by
      have how := how
      rw [hv'] at how
      rcases how with ⟨ho1, ⟨ho2, ho3⟩ | ⟨g, b0, cap', cur, ho2, ho3, ho4, ho5, ho6⟩⟩
      ·cases ho2; exact ⟨ho3.symm, Nat.le_refl _⟩
      ·cases ho2; exact ⟨rfl, ho5⟩
     obtain ⟨hNn, hNc⟩ := hNn
     subst hNn
     have hrun := tv (d := d) ty pos af gd (P := P) HT H hti hd hei (lo := none) (A := 0) rfl hB hsm hK hok hKn hNc hv
     simp only [ba, Bool.and_eq_true, decide_eq_true_eq] at hok
     have hval : (if K.toNat = (0 : Int).toNat then ad else ad.map (·.add ((0 : Int).toNat * ei.size))) = ad := by
      split
      ·rfl
      ·cases ad with
       | none => rfl
       | some a0 => simp [Addr.add]
     rw [hval, show (0 : Int).toNat = 0 from rfl, Nat.sub_zero, Nat.sub_zero] at hrun
     have hob : ∀ g, bo (Value.slice ad B.toNat K.toNat) = some g → bo (β o) = some g := fun g hg => by
      rw [hv']
      cases ad <;> exact hg
     have hown : w.fc 0 et ei.ty.size (.slice ad B.toNat K.toNat) (xs.take B.toNat).length (vs.take (B.toNat * ei.ty.size)) := by
      have hl : (xs.take B.toNat).length = B.toNat := by rw [List.length_take]; omega
      have hc := (hch.take B.toNat).len
      rw [hl] at hc
      rw [hl]
      rw [hv'] at how
      rcases how with ⟨q1, ⟨q2, q3⟩ | ⟨g, b0, cap', cur, q2, _, q3, q4, q5, q6, q7⟩⟩
      ·simp only [Value.slice.injEq] at q2
       obtain ⟨rfl, q4, rfl⟩ := q2
       have e1 : B.toNat = 0 := by omega
       have e2 : K.toNat = 0 := by omega
       exact ⟨hc, .inl ⟨by rw [e1, e2], e1⟩⟩
      ·cases q2
       refine ⟨hc, .inr ⟨g, b0, K.toNat, cur, rfl, Nat.zero_le _, q3, by omega, by omega, Nat.le_trans (Nat.add_le_add_left (Nat.mul_le_mul_right _ (by omega)) _) q6, ?_⟩⟩
       rw [← q7, List.take_take, Nat.min_eq_left (Nat.mul_le_mul_right _ (by omega))]
     have H2 := (H.drop o).new (v := .slice ad B.toNat K.toNat) (o := nm d 0) (ov := .row ei.ty et (xs.take B.toNat) f st) (fun hoc => hF rfl ?_) (fun _ => False) rfl rfl rfl (Nat.le_refl _) (fun _ _ _ => rfl) (fun _ h => h.elim) (fun _ _ _ _ _ h => h)
      ⟨_, by rw [bT]; exact hown, hch.take B.toNat⟩ (fun g hg => ?_)
     ·exact .inl ⟨_, w, hrun, _, SF, H2.slot d hN _ _ fun y hy => by cases hy; exact ⟨(bT _ _).symm, _, _, _, rfl⟩⟩
     ·rcases hoc with ⟨s, sv, h1, h2⟩ | ⟨n, ov, h1, h2⟩
      ·exact .inl ⟨s, sv, h1, h2⟩
      ·rw [ai] at h1
       split at h1
       ·cases h1
       ·exact .inr ⟨n, ov, h1, h2⟩
     ·obtain ⟨h1, h2⟩ := H.own o (.row ei.ty et xs f st) g ho (hob g hg)
      refine ⟨h1, h2, fun o' ov' h3 h4 => ?_⟩
      rw [ai] at h3
      split at h3
      ·cases h3
      ·rename_i hne
       exact H.inj o o' (.row ei.ty et xs f st) ov' g hne ho h3 (hob g hg) h4
    ·cases h
   ·cases h
  ·cases h
 ·cases h
end
end Go.Px
namespace Go.Px
open Go
section
variable {P : Program} {T : Types} {c : Ctx} {β : Nat → Value} {SF : Loc → Prop} {e : Env} {a : Act} {w : World} {ve : Env} [Sub ve e] {d : Nat} (ty : TypeId) (pos : String) (af : Array Edge) (gd : Option (Nat × Bool))
theorem yN (HT : mL P T) (H : aC c β SF e a w) (hN : c.ok d) {t : TypeId} {x y : Operand} {i : TI} {s : ByteArray} {f : Bool} {k : IntKind} {n : Int} (hi : look T t = some i) (hd : i.d = .string)
  (hx : fb ve x = some (.val .str s f)) (hy : iB ve y = some (k, n)) (hok : bQ n (s.size : Nat) = true) :
  ff P ⟨some d, .index t x y, ty, pos, af, gd⟩ a w (Rel c (e.aF [bz d (.val (.int .u8) (bt s n) true)])) := by
 have hx := mU (aW H hx)
 have hy := dN H hy
 obtain ⟨dd, hu, hdd⟩ := (HT _ _ hi).desc
 rw [hd] at hdd
 cases dd <;> simp only [dq] at hdd
 obtain ⟨h0, h1⟩ := ud.1 hok
 refine .pure (x := .cell (.val (.int .u8) (bt s n) true)) H rfl hN (v := .int .u8 (bt s n)) ?_ rfl
 simp only [execOp, hx, hy, Sem.run_bind, run_index_string w t s k n hu]
 rw [dif_pos ⟨h0, h1⟩]
 simp only [Result.andThen_ok, bt]
 rw [dif_pos (by omega)]
 rfl
theorem JC {h : Array Obj} {SA : Nat → Prop} {SF : Loc → Prop} {β : Nat → Value} : ∀ {l : List (Bool × List Cell)} {vs : List Value} {j : Nat} {b : Bool} {cs : List Cell}, gk (lf h SA SF β) l vs → l[j]? = some (b, cs) →
  ∃ us, ao h SA SF β cs us ∧ vs[j]? = some (valOf b us)
 | p :: l, _, 0, b, cs, ⟨v, r, e, h1, _⟩, hj => by
  simp only [List.getElem?_cons_zero, Option.some.injEq] at hj
  subst hj
  obtain ⟨us, h2, h3⟩ := h1
  subst e
  exact ⟨us, h2, by rw [h3]; rfl⟩
 | p :: l, _, j + 1, b, cs, ⟨v, r, e, _, h2⟩, hj => by
  subst e
  simpa using JC h2 (by simpa using hj)
theorem Ai (H : aC c β SF e a w) (hN : c.ok d) {x : Operand} {j : Nat} {l : List (Bool × List Cell)} {b : Bool} {cs : List Cell} {r : SV} (hx : jn ve x = some (.xr l)) (hj : l[j]? = some (b, cs)) (hr : sv b cs = some r) :
  ff P ⟨some d, .extract x j, ty, pos, af, gd⟩ a w (Rel c (e.aF [nO d r])) := by
 obtain ⟨vs, hx, hvs⟩ := cY H hx
 obtain ⟨us, h1, h2⟩ := JC hvs hj
 refine .pure H rfl hN (v := valOf b us) ?_ (tu h1 hr)
 simp [execOp, hx, Instr.extract, h2]
theorem Dt (HT : mL P T) (H : aC c β SF e a w) (hN : c.ok d) {t : TypeId} {x : Operand} {k fo ft : Nat} {i fi : TI} {cs : List Cell} {fs : List (Nat × Nat)} {r : SV} (hi : look T t = some i) (hx : jn ve x = some (.agg cs))
  (hd : i.d = .struct fs) (hf : fs[k]? = some (fo, ft)) (hfi : look T ft = some fi) (hr : sv fi.isAgg ((cs.drop fo).take fi.size) = some r) (hle : fo + fi.size ≤ cs.length) :
  ff P ⟨some d, .field t x k, ty, pos, af, gd⟩ a w (Rel c (e.aF [nO d r])) := by
 obtain ⟨vs, hx, hvs⟩ := cY H hx
 obtain ⟨dd, hu, hdd⟩ := (HT _ _ hi).desc
 rw [hd] at hdd
 cases dd <;> simp only [dq] at hdd
 obtain ⟨f, hk, rfl, rfl⟩ := yL hdd hf
 obtain ⟨j, hj, hjs, _⟩ := (HT _ _ hfi).info
 obtain ⟨fd, hfu, hfd⟩ := (HT _ _ hfi).desc
 have hrow := yK hfd
 have hlen := hvs.len
 refine .pure H rfl hN (v := valOf fi.isAgg ((vs.drop f.offset).take fi.size)) ?_ (tu ((hvs.drop f.offset).take fi.size) hr)
 have hagg : (isAgg f.type).run P w = .ok fi.isAgg w := by
  unfold isAgg
  rw [Sem.run_bind, run_underlying hfu w, ← hrow]
  cases fd <;> rfl
 have hpart : (part f.type vs.toArray f.offset).run P w = .ok (valOf fi.isAgg ((vs.drop f.offset).take fi.size)) w := by
  simp only [part, Sem.run_bind, hagg, Result.andThen_ok]
  cases hb : fi.isAgg
  ·have h1 := uc fi.size hr (by simp; omega) hb
   have hlt : f.offset < vs.length := by omega
   have hv : ((vs.drop f.offset).take fi.size).headD undef = vs[f.offset] := by
    rw [h1, List.drop_eq_getElem_cons hlt]
    rfl
   simp only [valOf, Bool.false_eq_true, if_false]
   rw [hv]
   simp [hlt]
  ·simp [valOf, sizeOf, typeInfo, hj, hjs]
 simp [execOp, hx, Instr.field, run_underlying hu, hk, hpart, asAgg]
theorem jo {b : Builtin} {args : Array Operand} {argTypes : Array TypeId} {cl : Call} {v : Value} {w' : World} (hc : cl = { callee := .builtin b, args, argTypes })
  (h : ∀ ty cs, (builtin b argTypes ty cs (args.map a.eval)).run P w = .ok (.value v) w') : (execOp a.eval ⟨some d, .call cl, ty, pos, af, gd⟩).run P w = .ok (.value v) w' := by
 subst hc
 simp [execOp, resolve, invoke, h]
theorem Li (H : aC c β SF e a w) {cl : Cell} {n : Int} {v : Value} (hc : aG w.heap c.SA SF β cl v) (hn : lenOf ve cl = some n) :
  (∃ s f, cl = .val .str s f ∧ v = .string s ∧ n = ((ByteArray.size s : Nat) : Int)) ∨ ∃ A N C, v = .slice A N C ∧ n = (N : Nat) ∧ N ≤ C ∧ ∀ s f, cl ≠ .val .str s f := by
 unfold lenOf at hn
 split at hn
 ·rename_i et t xh f
  cases hn
  obtain ⟨A, N, C, hv, hl, hc, _⟩ := hc
  simp only [List.cons.injEq, and_true] at hv
  exact .inr ⟨A, N, C, hv, by rw [← hl], hc, fun _ _ h => by cases h⟩
 ·rename_i t xs f
  cases hn
  obtain ⟨A, N, C, hv, hl, hc, _⟩ := hc
  simp only [List.cons.injEq, and_true] at hv
  exact .inr ⟨A, N, C, hv, by rw [← hl], hc, fun _ _ h => by cases h⟩
 ·rename_i s f
  cases hn
  exact .inl ⟨s, f, rfl, mU hc, rfl⟩
 ·cases hn
  exact .inr ⟨none, 0, 0, hc, rfl, Nat.le_refl _, fun _ _ h => by cases h⟩
 ·rename_i o
  split at hn
  ·rename_i t et xs f st ho
   cases hn
   obtain ⟨vs, ho, _⟩ := H.aY _ _ (bE ho)
   obtain ⟨hx, A, N, C, hv⟩ := hc
   rw [← hx, hv] at ho
   refine .inr ⟨A, N, C, hv, ?_, ?_, fun _ _ h => by cases h⟩
   ·rcases ho with ⟨ho1, ⟨ho2, ho3⟩ | ⟨g, b0, cap', cur, ho2, ho3⟩⟩
    ·cases ho2; rw [ho3]
    ·cases ho2; rfl
   ·rcases ho with ⟨ho1, ⟨ho2, ho3⟩ | ⟨g, b0, cap', cur, ho2, ho3, ho4, ho5, ho6⟩⟩
    ·cases ho2; exact Nat.le_refl _
    ·cases ho2; exact ho5
  ·cases hn
 ·rename_i o t lo m
  cases hn
  obtain ⟨A, N, C, hβ, h1, h2, hv⟩ := hc
  exact .inr ⟨_, _, _, hv, rfl, by omega, fun _ _ h => by cases h⟩
 ·cases hn
theorem lL (HT : mL P T) (H : aC c β SF e a w) (hN : c.ok d) {x : Operand} {t : TypeId} {i : TI} {cl : Cell} {n : Int} {argTypes : Array TypeId} {rest : List TypeId} {C : Call} (hC : C = { callee := .builtin .len, args := #[x], argTypes })
  (hty : argTypes.toList = t :: rest) (hi : look T t = some i) (hx : fb ve x = some cl) (hn : lenOf ve cl = some n)
  (hm : (i.d = .string ∧ ∃ s f, cl = .val .str s f) ∨ (∃ el, i.d = .slice el) ∧ ∀ s f, cl ≠ .val .str s f) :
  ff P ⟨some d, .call C, ty, pos, af, gd⟩ a w (Rel c (e.aF [bz d (.val (.int .i64) n true)])) := by
 have h0 : argTypes[0]? = some t := by rw [← Array.getElem?_toList, hty]; rfl
 obtain ⟨dd, hu, hdd⟩ := (HT _ _ hi).desc
 refine .pure (x := .cell (.val (.int .i64) n true)) H rfl hN (v := .int .i64 n) (jo ty pos af gd hC fun ty cs => ?_) rfl
 rcases Li H (aW H hx) hn with ⟨s, f, h1, h2, h3⟩ | ⟨A, N, C, h2, h3, _, h4⟩
 ·rcases hm with ⟨hd, _⟩ | ⟨_, h⟩
  ·rw [hd] at hdd
   cases dd <;> simp only [dq] at hdd
   simp [builtin, Builtin.len_, h0, h2, run_underlying hu, goInt, h3]
  ·exact absurd h1 (h _ _)
 ·rcases hm with ⟨_, s, f, h⟩ | ⟨⟨el, hd⟩, _⟩
  ·exact absurd h (h4 _ _)
  ·rw [hd] at hdd
   cases dd <;> simp only [dq] at hdd
   simp [builtin, Builtin.len_, h0, h2, run_underlying hu, goInt, h3]
theorem HS (H : aC c β SF e a w) (hN : c.ok d) {x y : Operand} {k : IntKind} {m n : Int} {argTypes : Array TypeId} {C : Call} (hC : C = { callee := .builtin .max, args := #[x, y], argTypes })
  (hx : iB ve x = some (k, m)) (hy : iB ve y = some (k, n)) : ff P ⟨some d, .call C, ty, pos, af, gd⟩ a w (Rel c (e.aF [bz d (.val (.int k) (show Int from max m n) true)])) := by
 have hx := dN H hx
 have hy := dN H hy
 refine .pure (x := .cell (.val (.int k) (show Int from max m n) true)) H rfl hN (v := .int k (max m n)) (jo ty pos af gd hC fun ty cs => ?_) rfl
 have : (if n > m then n else m) = max m n := by omega
 simp [builtin, Builtin.max_, hx, hy, Builtin.max2]
 split <;> omega
theorem HU (H : aC c β SF e a w) (hN : c.ok d) {x y : Operand} {k : IntKind} {m n : Int} {argTypes : Array TypeId} {C : Call} (hC : C = { callee := .builtin .min, args := #[x, y], argTypes })
  (hx : iB ve x = some (k, m)) (hy : iB ve y = some (k, n)) : ff P ⟨some d, .call C, ty, pos, af, gd⟩ a w (Rel c (e.aF [bz d (.val (.int k) (show Int from min m n) true)])) := by
 have hx := dN H hx
 have hy := dN H hy
 refine .pure (x := .cell (.val (.int k) (show Int from min m n) true)) H rfl hN (v := .int k (min m n)) (jo ty pos af gd hC fun ty cs => ?_) rfl
 simp [builtin, Builtin.min_, hx, hy, Builtin.min2]
 split <;> omega
theorem Fi (H : aC c β SF e a w) (hN : c.ok d) {x y z : Operand} {k : IntKind} {m n l : Int} {argTypes : Array TypeId} {C : Call} (hC : C = { callee := .builtin .max, args := #[x, y, z], argTypes })
  (hx : iB ve x = some (k, m)) (hy : iB ve y = some (k, n)) (hz : iB ve z = some (k, l)) : ff P ⟨some d, .call C, ty, pos, af, gd⟩ a w (Rel c (e.aF [bz d (.val (.int k) (show Int from max (show Int from max m n) l) true)])) := by
 have hx := dN H hx
 have hy := dN H hy
 have hz := dN H hz
 refine .pure (x := .cell (.val (.int k) (show Int from max (show Int from max m n) l) true)) H rfl hN (v := .int k (max (max m n) l)) (jo ty pos af gd hC fun ty cs => ?_) rfl
 have h1 : (if n > m then n else m) = max m n := by split <;> omega
 have h2 : (if l > max m n then l else max m n) = max (max m n) l := by split <;> omega
 simp [builtin, Builtin.max_, hx, hy, hz, Builtin.max2]
 rw [h1, h2]
 omega
theorem Fj (H : aC c β SF e a w) (hN : c.ok d) {x y z : Operand} {k : IntKind} {m n l : Int} {argTypes : Array TypeId} {C : Call} (hC : C = { callee := .builtin .min, args := #[x, y, z], argTypes })
  (hx : iB ve x = some (k, m)) (hy : iB ve y = some (k, n)) (hz : iB ve z = some (k, l)) : ff P ⟨some d, .call C, ty, pos, af, gd⟩ a w (Rel c (e.aF [bz d (.val (.int k) (show Int from min (show Int from min m n) l) true)])) := by
 have hx := dN H hx
 have hy := dN H hy
 have hz := dN H hz
 refine .pure (x := .cell (.val (.int k) (show Int from min (show Int from min m n) l) true)) H rfl hN (v := .int k (min (min m n) l)) (jo ty pos af gd hC fun ty cs => ?_) rfl
 have h1 : (if n < m then n else m) = min m n := by split <;> omega
 have h2 : (if l < min m n then l else min m n) = min (min m n) l := by split <;> omega
 simp [builtin, Builtin.min_, hx, hy, hz, Builtin.min2]
 rw [h1, h2]
 omega
theorem uf (H : aC c β SF e a w) : ∀ {xs : List Operand} {cs : List Cell} {l : List Nat}, xs.mapM (fb ve) = some cs → p8 cs = some l →
  xs.map a.eval = l.map β ∧ ∀ o ∈ l, ∃ g, β o = .pointer (some ⟨g, 0, none⟩)
 | [], cs, l, h1, h2 => by
  simp at h1
  subst h1
  cases h2
  simp
 | x :: xs, cs, l, h1, h2 => by
  simp only [List.mapM_cons, Option.bind_eq_bind, Option.pure_def, Option.bind_eq_some_iff] at h1
  obtain ⟨c0, hc0, cs', hcs', h3⟩ := h1
  cases h3
  unfold p8 at h2
  split at h2
  ·rename_i h; cases h
  ·rename_i o r h
   cases h
   simp only [Option.map_eq_some_iff] at h2
   obtain ⟨l', hl', rfl⟩ := h2
   obtain ⟨g1, g2⟩ := uf H hcs' hl'
   obtain ⟨g, hg, hv⟩ := aW H hc0
   refine ⟨by simp [g1, hv, hg], fun o' ho' => ?_⟩
   rcases List.mem_cons.1 ho' with rfl | ho'
   ·exact ⟨g, hg⟩
   ·exact g2 o' ho'
  ·cases h2
theorem yO (H : aC c β SF e a w) (hN : c.ok d) {f : Nat} {first caps : Array Operand} {l : List Nat} (h1 : first.toList = []) (h2 : (caps.toList.mapM (fb ve)).bind p8 = some l) :
  ff P ⟨some d, .makeFunc (.func f) first caps, ty, pos, af, gd⟩ a w (Rel c (e.aF [bz d (.fn f l)])) := by
 obtain ⟨cs, h3, h4⟩ := Option.bind_eq_some_iff.1 h2
 obtain ⟨h5, h6⟩ := uf H h3 h4
 have hf : first = #[] := by cases first; simp at h1; rw [h1]
 subst hf
 have hc : caps.map a.eval = (l.map β).toArray := by rw [← h5]; cases caps; simp
 refine .pure (x := .cell (.fn f l)) H rfl hN (v := .func (.func f) #[] (l.map β).toArray) ?_ ⟨rfl, h6⟩
 simp [execOp, Instr.makeFunc, hc]
end
end Go.Px
namespace Go.Px
open Go
theorem Du : ∀ (l : List Value) (off k : Nat) (arr : Array Value), off + k + l.length ≤ arr.size →
  ((l.zipIdx k).foldl (fun cs (p : Value × Nat) => cs.setIfInBounds (off + p.2) p.1) arr).toList = arr.toList.take (off + k) ++ l ++ arr.toList.drop (off + k + l.length)
 | [], off, k, arr, _ => by simp
 | v :: l, off, k, arr, h => by
  simp only [List.length_cons] at h
  simp only [List.zipIdx_cons, List.foldl_cons]
  rw [Du l off (k + 1) _ (by simp; omega)]
  simp only [Array.toList_setIfInBounds, List.length_cons]
  exact list_seg_step arr.toList (off + k) v l (by simpa using h)
section
variable {P : Program} {T : Types} {c : Ctx} {β : Nat → Value} {SF : Loc → Prop} {e : Env} {a : Act} {w : World} {ve : Env} [Sub ve e] {d : Nat} (ty : TypeId) (pos : String) (af : Array Edge) (gd : Option (Nat × Bool))
theorem ug (H : aC c β SF e a w) {fs : List (Nat × Nat)} {place : Nat → Option (Nat × Nat)} (hp : ∀ j p, fs[j]? = some p → place j = some p) :
  ∀ {ps : List (Nat × Operand)} {cs cs' : List Cell} {arr : Array Value}, lI fs ve ps cs = some cs' → ao w.heap c.SA SF β cs arr.toList →
   ∃ arr', Instr.fill place arr (ps.map fun p => (p.1, a.eval p.2)) = some arr' ∧ ao w.heap c.SA SF β cs' arr'.toList
 | [], cs, cs', arr, h, hr => by cases h; exact ⟨arr, rfl, hr⟩
 | (j, x) :: ps, cs, cs', arr, h, hr => by
  simp only [lI] at h
  split at h
  ·rename_i fo sz cs1 h1 h2
   obtain ⟨s, hs, hcs⟩ := Option.bind_eq_some_iff.1 h2
   split at h
   ·rename_i hc
    simp only [Bool.and_eq_true, Nat.beq_eq, Nat.ble_eq] at hc
    obtain ⟨hc1, hc2⟩ := hc
    have hv := n7 (cY H hs) hcs
    have hl := hv.len
    have hl2 := hr.len
    simp only [Array.length_toList] at hl hl2
    have hnew : ao w.heap c.SA SF β (eK cs1 fo cs) ((a.eval x).cells.zipIdx.foldl (fun (cs : Array Value) (p : Value × Nat) => cs.setIfInBounds (fo + p.2) p.1) arr).toList := by
     have e1 := Du (a.eval x).cells.toList fo 0 arr (by simp; omega)
     rw [← Array.foldl_toList, Array.toList_zipIdx, e1]
     simp only [Nat.add_zero]
     exact lk (by omega) hv hr
    obtain ⟨arr', h3, h4⟩ := ug H hp h hnew
    refine ⟨arr', ?_, h4⟩
    simp only [List.map_cons, Instr.fill, hp _ _ h1]
    rw [if_neg (by simp; omega)]
    exact h3
   ·cases h
  ·cases h
theorem AX (HT : mL P T) : ∀ {fields : List Field} {l : List (Nat × Nat)}, xK T (fields.map fun f => (f.offset, f.type)) = some l →
  fields.mapM (fun f => (P.info? f.type).map fun i => (f.offset, i.size)) = some l
 | [], l, h => by cases h; rfl
 | f :: r, l, h => by
  simp only [List.map_cons, xK] at h
  split at h
  ·rename_i i l' hi hl
   cases h
   obtain ⟨j, hj, hjs, _⟩ := (HT _ _ hi).info
   have := AX HT hl
   simp [List.mapM_cons, hj, this, hjs]
  ·cases h
theorem Dv (HT : mL P T) (H : aC c β SF e a w) (hN : c.ok d) {t : TypeId} {ps : Array (Nat × Operand)} {ef : pq} (h : yw T ve d t ps.toList = some ef) :
  ff P ⟨some d, .build t ps, ty, pos, af, gd⟩ a w (Rel c (e.aF ef.ws)) := by
 unfold yw at h
 have hbt : ∀ {cells : Array Value}, P.built t (ps.toList.map fun p => (p.1, a.eval p.2)) = some cells → (execOp a.eval ⟨some d, .build t ps, ty, pos, af, gd⟩).run P w = .ok (.value (.agg cells)) w := fun {cells} hb => by
  have := run_build (P := P) w t (ps.map fun (i, x) => (i, a.eval x)) cells (by simpa using hb)
  simp only [execOp, Sem.run_bind, this, Result.andThen_ok]
  rfl
 split at h
 ·rename_i i hi
  obtain ⟨dd, hu, hdd⟩ := (HT _ _ hi).desc
  obtain ⟨j, hj, hjs, hjb, z, hz, hzc⟩ := (HT _ _ hi).info
  have hzr : ao w.heap c.SA SF β (zeroCells i.ty) z.cells.toList := by rw [hzc]; exact gZ i.ty
  split at h
  ·rename_i fs hd
   rw [hd] at hdd
   cases dd <;> simp only [dq] at hdd
   subst hdd
   split at h
   ·rename_i l hl
    split at h
    ·rename_i cs hcs
     cases h
     have hm := AX HT hl
     obtain ⟨arr, h1, h2⟩ := ug H (place := (l.toArray[·]?)) (fun j p hp => by simpa using hp) hcs hzr
     refine .pure H rfl hN (v := .agg arr) (hbt ?_) ⟨arr.toList, by simp, h2⟩
     simp [Program.built, hj, hu, hz, hm]
     simpa using h1
    ·cases h
   ·cases h
  ·rename_i n el hd
   rw [hd] at hdd
   cases dd <;> simp only [dq] at hdd
   obtain ⟨rfl, rfl⟩ := hdd
   split at h
   ·rename_i ei hei
    obtain ⟨je, hje, hjes, _⟩ := (HT _ _ hei).info
    split at h
    ·rename_i cs hcs
     cases h
     obtain ⟨arr, h1, h2⟩ := ug H (place := fun i => some (i * ei.size, ei.size)) (fun j p hp => by
      simp only [Bx, List.getElem?_map, Option.map_eq_some_iff] at hp
      obtain ⟨k, hk, rfl⟩ := hp
      rw [List.getElem?_range] at hk
      ·cases hk; rfl
      ·by_cases hj : j < n
       ·exact hj
       ·rw [List.getElem?_eq_none (by simpa using hj)] at hk; cases hk) hcs hzr
     refine .pure H rfl hN (v := .agg arr) (hbt ?_) ⟨arr.toList, by simp, h2⟩
     simp [Program.built, hj, hu, hz, hje, hjes, h1]
    ·cases h
   ·cases h
  ·cases h
 ·cases h
end
end Go.Px
namespace Go.Px
open Go
def lX (e : Env) (d : Nat) : Prop := ¬ ua e (nm d 0)
section
variable {P : Program} {T : Types} {c : Ctx} {β : Nat → Value} {SF : Loc → Prop} {e : Env} {a : Act} {w : World} {ve : Env} [Sub ve e] {d : Nat} (ty : TypeId) (pos : String) (af : Array Edge) (gd : Option (Nat × Bool))
theorem Fk {x : Operand} {s : SV} (h : jn ve x = some s) : ∀ n ∈ s.names, ua e n := by
 intro n hn
 cases x with
 | tmp t =>
  obtain ⟨s', h1, rfl⟩ := Option.map_eq_some_iff.1 h
  refine .inl ⟨t, s', AV h1, ?_⟩
  unfold res at hn
  split at hn
  ·split at hn
   ·simp [SV.names, aq] at hn
   ·exact hn
  ·exact hn
 | const v =>
  simp only [jn, xJ] at h
  split at h <;> cases h <;> simp [SV.names, aq] at hn
 | global g => cases h
 | func f => cases h; simp [SV.names, aq] at hn
theorem Dx {s : SV} {cs : List Cell} (h : s.cells = some cs) : cs.flatMap Cell.names = s.names := by
 cases s <;> cases h
 ·simp [SV.names]
 ·rfl
theorem aC.JD (H : aC c β SF e a w) {o : Nat} (hn : ¬ ua e o) {ov : OV} (hst : ov.st = 0) {cells : Array Value} {et : TypeId} {v : Value}
  (hv : bo v = some w.heap.size) (hob : cS c.SA SF (AU β o v) (w.alloc (.cells cells et)) o ov) (hfl : ov.flat := by trivial) :
  aC c (AU β o v) SF (e.put (.obj o (some ov))) a (w.alloc (.cells cells et)) := by
 refine H.new (w' := w.alloc (.cells cells et)) hn (fun _ => False) rfl rfl rfl (by simp) (fun k hk _ => heap_alloc_old w _ k hk) (fun _ h => h.elim) (fun _ _ _ _ _ h => h) hob (fun g hg => ?_) hfl
 rw [hv] at hg
 cases hg
 exact ⟨by simp, .inl ⟨hst, H.size, fun hs => by have := (H.sf _ hs).2; omega⟩, fun o' ov' ho' hg => by have := (H.own _ _ _ ho' hg).1; omega⟩
theorem kE : ∀ t : Ty, (zeroCells t).flatMap Cell.names = []
 | .int _ => rfl
 | .bool => rfl
 | .str => rfl
 | .err => rfl
 | .mp => rfl
 | .nil => rfl
 | .slice _ => rfl
 | .aI _ _ => rfl
 | .cons a b => by rw [zeroCells, List.flatMap_append, kE a, kE b]; rfl
theorem GA (H : aC c β SF e a w) (hN : c.ok d) (hF : lX e d) {cs : List Cell} {vs : Array Value} {et : TypeId} (hcs : ao w.heap c.SA SF β cs vs.toList) (oN : ∀ n ∈ cs.flatMap Cell.names, ua e n) :
  Rel c (e.aF [.obj (nm d 0) (some (.box cs 0)), bz d (.ptr (nm d 0) 0)]) (a.put (some d) (.pointer (some ⟨w.heap.size, 0, none⟩))) (w.alloc (.cells vs et)) := by
 have hne : ∀ n ∈ cs.flatMap Cell.names, AU β (nm d 0) (.pointer (some ⟨w.heap.size, 0, none⟩)) n = β n := fun n hn => ny _ fun h => hF (h ▸ oN n hn)
 have h1 := H.JD hF (ov := .box cs 0) rfl (v := .pointer (some ⟨w.heap.size, 0, none⟩)) (cells := vs) (et := et) rfl
  ⟨w.heap.size, vs, et, bT _ _, heap_alloc_new w _, hcs.mono (fun _ h => h) (fun k hk => heap_alloc_old w _ k (hk.elim (fun h => Nat.lt_of_lt_of_le (H.sa k h).1 H.size) (fun h => (H.sf k h).2))) hne⟩
 exact ⟨_, _, h1.slot d hN _ _ fun y hy => by cases hy; exact ⟨w.heap.size, bT _ _, rfl⟩⟩
theorem Dy (HT : mL P T) (H : aC c β SF e a w) (hN : c.ok d) (hF : lX e d) {t : TypeId} {i : TI} (hi : look T t = some i) :
  ff P ⟨some d, .alloc t, ty, pos, af, gd⟩ a w (Rel c (e.aF [.obj (nm d 0) (some (.box (zeroCells i.ty) 0)), bz d (.ptr (nm d 0) 0)])) := by
 obtain ⟨j, hj, hjs, hjb, z, hz, hzc⟩ := (HT _ _ hi).info
 refine .inl ⟨.pointer (some ⟨w.heap.size, 0, none⟩), w.alloc (.cells z.cells t), ?_, GA H hN hF (by rw [hzc]; exact gZ i.ty) (by rw [kE]; simp)⟩
 simp [execOp, Instr.alloc, zeroValue, typeInfo, hj, hz, newVar, newRow]
theorem HV (H : aC c β SF e a w) (hN : c.ok d) (hF : lX e d) {t : TypeId} {x : Operand} {cs : List Cell} (hx : (jn ve x).bind SV.cells = some cs) :
  ff P ⟨some d, .box t x, ty, pos, af, gd⟩ a w (Rel c (e.aF [.obj (nm d 0) (some (.box cs 0)), bz d (.ptr (nm d 0) 0)])) := by
 obtain ⟨s, hs, hcs⟩ := Option.bind_eq_some_iff.1 hx
 refine .inl ⟨.pointer (some ⟨w.heap.size, 0, none⟩), w.alloc (.cells (a.eval x).cells t), ?_, GA H hN hF (n7 (cY H hs) hcs) (fun n hn => Fk hs n (by rwa [Dx hcs] at hn))⟩
 simp [execOp, Instr.box, newVar, newRow]
theorem uh (H : aC c β SF e a w) (hN : c.ok d) (hF : lX e d) {t : Ty} {et : TypeId} {xs : List t.den} {f : Bool} {cells : Array Value} {n m : Nat} (hn : xs.length = n) (oN : n ≤ m) (hm : m ≤ maxLen)
  (hsz : cells.size = m * t.size) (hch : b7 (bm w.heap (S2 c.SA SF f) t) xs (cells.toList.take (n * t.size))) :
  Rel c (e.aF [.obj (nm d 0) (some (.row t et xs f 0)), bz d (.row (nm d 0))]) (a.put (some d) (.slice (some ⟨w.heap.size, 0, none⟩) n m)) (w.alloc (.cells cells et)) := by
 subst hn
 have hl : (cells.toList.take (xs.length * t.size)).length = xs.length * t.size := hch.len
 have hh : ∀ k, c.SA k ∨ SF k → (w.alloc (.cells cells et)).heap[k]? = w.heap[k]? := fun k hk => heap_alloc_old w _ k (hk.elim (fun h => Nat.lt_of_lt_of_le (H.sa k h).1 H.size) (fun h => (H.sf k h).2))
 have h1 := H.JD hF (ov := .row t et xs f 0) rfl (v := .slice (some ⟨w.heap.size, 0, none⟩) xs.length m) (cells := cells) (et := et) rfl
  ⟨cells.toList.take (xs.length * t.size), by
   rw [bT]
   exact ⟨hl, .inr ⟨w.heap.size, 0, m, cells, rfl, Nat.zero_le _, heap_alloc_new w _, oN, hm, by rw [Nat.zero_add]; exact Nat.le_of_eq hsz.symm, rfl⟩⟩,
   hch.mono fun _ _ hr => bm.mono (fun _ h => h) (fun k hk => hh k (S2.sub f hk)) hr⟩
 exact ⟨_, _, h1.slot d hN _ _ fun y hy => by cases hy; exact ⟨(bT _ _).symm, _, _, _, rfl⟩⟩
theorem AY (z : Array Value) (n m : Nat) (h : n ≤ m) : (madeCells z (m * z.size)).toList.take (n * z.size) = (List.replicate n z.toList).flatten := by
 induction n generalizing m with
 | zero => simp
 | succ n ih =>
  apply List.ext_getElem?
  intro j
  have hm : (n + 1) * z.size ≤ m * z.size := Nat.mul_le_mul_right _ h
  rw [Nat.succ_mul] at hm
  have ih' := ih m (by omega)
  rw [List.replicate_succ', List.flatten_append, ← ih']
  simp only [List.flatten_cons, List.flatten_nil, List.append_nil]
  have hl : (List.take (n * z.size) (madeCells z (m * z.size)).toList).length = n * z.size := by rw [List.length_take, Array.length_toList, size_madeCells]; omega
  rw [Nat.succ_mul, List.getElem?_append, hl, List.getElem?_take]
  by_cases hj : j < n * z.size
  ·rw [if_pos (by omega), if_pos hj, List.getElem?_take, if_pos hj]
  ·rw [if_neg hj]
   by_cases hj2 : j < n * z.size + z.size
   ·obtain ⟨k, rfl⟩ : ∃ k, j = n * z.size + k := ⟨j - n * z.size, by omega⟩
    have hk : k < z.size := by omega
    rw [if_pos hj2]
    have hlt : n * z.size + k < m * z.size := by omega
    simp [madeCells, hlt, Nat.mul_add_mod_self_right, Nat.mod_eq_of_lt hk, hk, show n * z.size + k - n * z.size = k by omega]
   ·rw [if_neg hj2, List.getElem?_eq_none (by simp; omega)]
theorem Fl (HT : mL P T) (H : aC c β SF e a w) (hN : c.ok d) (hF : lX e d) {t : TypeId} {x y : Operand} {ef : pq} (h : Bw T ve d t x y = some ef) (hok : ef.ok = true) :
  ff P ⟨some d, .makeSlice t x y, ty, pos, af, gd⟩ a w (Rel c (e.aF ef.ws)) := by
 unfold Bw at h
 split at h
 ·rename_i i k n k' m hi hx hy
  have hx := dN H hx
  have hy := dN H hy
  obtain ⟨dd, hu, hdd⟩ := (HT _ _ hi).desc
  split at h
  ·rename_i el hd
   rw [hd] at hdd
   cases dd <;> simp only [dq] at hdd
   subst hdd
   split at h
   ·rename_i ei hei
    split at h
    ·rename_i hb
     have hb := Nat.le_of_ble_eq_true hb
     cases h
     simp only [Bool.and_eq_true, decide_eq_true_eq] at hok
     obtain ⟨h1, h2, h3⟩ := hok
     obtain ⟨j, hj, hjs, hjb, z, hz, hzc⟩ := (HT _ _ hei).info
     have hsz := (HT _ _ hei).size
     have hzs : z.cells.size = ei.ty.size := by
      have := (n6 (h := w.heap) (fun _ => True) ei.ty).len
      rw [← hzc] at this
      simpa using this
     have hb' : m ≤ m * (ei.bytes : Int) := by
      have := Int.mul_le_mul_of_nonneg_left (show (1 : Int) ≤ ei.bytes by omega) (show 0 ≤ m by omega)
      simpa using this
     have h3' : (j.bytes : Int) * m ≤ 281474976710656 := by rw [hjb, Int.mul_comm]; omega
     have hr := run_make (P := P) w t el j z hu hj hz k k' n m h1 h2 h3' (by omega)
     refine .inl ⟨_, _, by simp only [execOp, hx, hy, Sem.run_bind, hr, Result.andThen_ok]; rfl, uh H hN hF (by simp) (by omega) (by simp only [maxLen]; omega) (by rw [size_madeCells, hjs, hsz]) ?_⟩
     rw [hjs, ← hsz, ← hzs, AY _ _ _ (by omega), hzc]
     exact b7.replicate (n6 _ _) _
    ·cases h
   ·cases h
  ·cases h
 ·cases h
end
end Go.Px
namespace Go.Px
open Go
structure Fm (e e' : Env) : Prop where
 bk : ∀ s, e'.slot s = e.slot s
 aY : ∀ o ov, e.obj o = some ov → e'.obj o = some ov ∨ ∃ t et xs f, ov = .row t et xs f 0 ∧ e'.obj o = some (.row t et xs f 1)
 back : ∀ o ov', e'.obj o = some ov' → ∃ ov, e.obj o = some ov ∧ ov'.names = ov.names
theorem Fm.refl (e : Env) : Fm e e := ⟨fun _ => rfl, fun _ _ h => .inl h, fun _ ov h => ⟨ov, h, rfl⟩⟩
theorem Fm.HW {e e' : Env} (F : Fm e e') {o : Nat} (h : ua e' o) : ua e o := by
 rcases h with ⟨s, sv, h1, h2⟩ | ⟨n, ov, h1, h2⟩
 ·exact .inl ⟨s, sv, by rw [← F.bk]; exact h1, h2⟩
 ·obtain ⟨ov', h3, h4⟩ := F.back _ _ h1
  exact .inr ⟨n, ov', h3, by rw [← h4]; exact h2⟩
theorem Env.jX (e : Env) : e.aF [] = e := rfl
theorem Env.a7 (e : Env) (w : W) (ws : List W) : e.aF (w :: ws) = (e.put w).aF ws := rfl
theorem Env.cA (e : Env) (ws ws' : List W) : e.aF (ws ++ ws') = (e.aF ws).aF ws' := List.foldl_append ..
section
variable {P : Program} {T : Types} {c : Ctx} {β : Nat → Value} {SF : Loc → Prop} {e e' : Env} {a : Act} {w : World} {ve : Env} [Sub ve e] {d : Nat} (ty : TypeId) (pos : String) (af : Array Edge) (gd : Option (Nat × Bool))
theorem im {o : Nat} {t : Ty} {et : Nat} {xs : List t.den} {f : Bool} {st : Nat} {v : Value} {SF' : Loc → Prop} (ho : cS c.SA SF β w o (.row t et xs f st)) (hsub : ∀ k, SF k → SF' k)
  (hin : ∀ g : Nat, bo (β o) = some g → SF' g) (hv : aG w.heap c.SA SF β (.row o) v) : aG w.heap c.SA SF' β (.val (.slice t) xs f) v := by
 obtain ⟨rfl, A, N, C, hv⟩ := hv
 obtain ⟨vs, ho, hch⟩ := ho
 rcases ho with ⟨h1, ⟨h2, h3⟩ | ⟨g, b0, cap, cur, h2, _, h3, h4, h5, h6, h7⟩⟩
 ·exact ⟨none, 0, 0, by rw [h2], h3, Nat.le_refl _, .inl rfl⟩
 ·refine ⟨_, _, _, by rw [h2], rfl, h4, .inr ⟨g, b0, cur, et, (0, 0), rfl, .inl (hin g (by rw [h2]; rfl)), h3, ?_, ?_⟩⟩
  ·exact Nat.le_trans (Nat.add_le_add_left (Nat.mul_le_mul_right _ h4) _) h6
  ·rw [h7]
   exact hch.mono fun _ _ hr => bm.mono (S2.mono hsub f) (fun _ _ => rfl) hr
theorem BO (F : Fm e e') (H : aC c β SF e' a w) {cl cl' : Cell} {ws : List W} (h : settle ve cl = some (cl', ws)) :
  ∃ SF', (∀ k, SF k → SF' k) ∧ Fm e (e'.aF ws) ∧ aC c β SF' (e'.aF ws) a w ∧ (∀ v, aG w.heap c.SA SF β cl v → aG w.heap c.SA SF' β cl' v) ∧ (∀ o, o ∉ aq cl → (e'.aF ws).obj o = e'.obj o) ∧ aq cl' = [] := by
 unfold settle at h
 split at h
 ·cases h
  exact ⟨SF, fun _ h => h, F, H, fun _ h => h, fun _ _ => rfl, rfl⟩
 ·cases h
  exact ⟨SF, fun _ h => h, F, H, fun _ h => h, fun _ _ => rfl, rfl⟩
 ·rename_i o
  split at h
  ·rename_i t et xs f ho
   cases h
   have ho := bE (e := e) ho
   rcases F.aY _ _ ho with h1 | ⟨_, _, _, _, h1, h2⟩
   ·refine ⟨_, fz.sub, ?_, H.freeze h1, fun v hv => im (H.aY _ _ h1) fz.sub (fun g hg => .inr hg) hv, fun o' ho' => ?_, rfl⟩
    ·refine ⟨F.bk, fun o' ov ho' => ?_, fun o' ov' ho' => ?_⟩
     ·simp only [Env.a7, Env.jX, ai]
      by_cases hc : o = o'
      ·subst hc
       rw [ho] at ho'
       cases ho'
       exact .inr ⟨t, et, xs, f, rfl, by rw [if_pos rfl]⟩
      ·rw [if_neg hc]; exact F.aY _ _ ho'
     ·simp only [Env.a7, Env.jX, ai] at ho'
      by_cases hc : o = o'
      ·subst hc
       rw [if_pos rfl] at ho'
       cases ho'
       exact ⟨_, ho, rfl⟩
      ·rw [if_neg hc] at ho'; exact F.back _ _ ho'
    ·simp only [Env.a7, Env.jX, ai]
     rw [if_neg]
     intro hc
     subst hc
     exact ho' (by simp [aq])
   ·cases h1
    refine ⟨SF, fun _ h => h, ?_, H.qe h2 (.inl rfl) (H.aY _ _ h2), fun v hv => im (H.aY _ _ h2) (fun _ h => h) (fun g hg => ?_) hv, fun o' ho' => ?_, rfl⟩
    ·refine ⟨F.bk, fun o' ov ho' => ?_, fun o' ov' ho' => ?_⟩
     ·simp only [Env.a7, Env.jX, ai]
      by_cases hc : o = o'
      ·subst hc
       rw [ho] at ho'
       cases ho'
       exact .inr ⟨t, et, xs, f, rfl, by rw [if_pos rfl]⟩
      ·rw [if_neg hc]; exact F.aY _ _ ho'
     ·simp only [Env.a7, Env.jX, ai] at ho'
      by_cases hc : o = o'
      ·subst hc
       rw [if_pos rfl] at ho'
       cases ho'
       exact ⟨_, ho, rfl⟩
      ·rw [if_neg hc] at ho'; exact F.back _ _ ho'
    ·rcases (H.own _ _ g h2 hg).2 with h | h | h
     ·exact absurd h.1 (by simp [OV.st])
     ·exact h.2
     ·exact absurd h.1 (by simp [OV.st])
    ·simp only [Env.a7, Env.jX, ai]
     rw [if_neg]
     intro hc
     subst hc
     exact ho' (by simp [aq])
  ·rename_i t et xs f ho
   cases h
   have ho := bE (e := e) ho
   rcases F.aY _ _ ho with h1 | ⟨_, _, _, _, h1, h2⟩
   ·refine ⟨SF, fun _ h => h, F, H, fun v hv => im (H.aY _ _ h1) (fun _ h => h) (fun g hg => ?_) hv, fun _ _ => rfl, rfl⟩
    rcases (H.own _ _ g h1 hg).2 with h | h | h
    ·exact absurd h.1 (by simp [OV.st])
    ·exact h.2
    ·exact absurd h.1 (by simp [OV.st])
   ·cases h1
  ·cases h
 ·cases h
theorem nz : ∀ {cs cs' : List Cell} {ws : List W} {e' : Env} {SF : Loc → Prop}, Fm e e' → aC c β SF e' a w → tQ ve cs = some (cs', ws) →
  ∃ SF', (∀ k, SF k → SF' k) ∧ Fm e (e'.aF ws) ∧ aC c β SF' (e'.aF ws) a w ∧ (∀ vs, ao w.heap c.SA SF β cs vs → ao w.heap c.SA SF' β cs' vs) ∧
   (∀ o, o ∉ cs.flatMap aq → (e'.aF ws).obj o = e'.obj o)
 | [], _, _, _, SF, F, H, h => by
  cases h
  exact ⟨SF, fun _ h => h, F, H, fun _ h => h, fun _ _ => rfl⟩
 | cl :: cs, _, _, e', SF, F, H, h => by
  simp only [tQ] at h
  split at h
  ·rename_i c1 w1 r1 w2 h1 h2
   cases h
   obtain ⟨SF1, g1, g2, g3, g4, g5, _⟩ := BO F H h1
   obtain ⟨SF2, k1, k2, k3, k4, k5⟩ := nz g2 g3 h2
   refine ⟨SF2, fun k hk => k1 k (g1 k hk), by rw [Env.cA]; exact k2, by rw [Env.cA]; exact k3, fun vs hvs => ?_, fun o ho => ?_⟩
   ·obtain ⟨v, r, rfl, q1, q2⟩ := hvs
    exact ⟨v, r, rfl, (g4 v q1).mono k1 (fun _ _ => rfl) (fun _ _ => rfl), k4 r (ao.mono g1 (fun _ _ => rfl) (fun _ _ => rfl) q2)⟩
   ·rw [List.flatMap_cons, List.mem_append, not_or] at ho
    rw [Env.cA, k5 o ho.2, g5 o ho.1]
  ·cases h
theorem AZ {h : Array Obj} {SA : Nat → Prop} {SF : Loc → Prop} {β : Nat → Value} {t : Ty} {f : Bool} : ∀ {n : Nat} {cs : List Cell} {xs : List t.den} {vs : List Value}, ao h SA SF β cs vs → elems t n cs = some xs → (f = true → iA cs = true) →
  xs.length = n ∧ b7 (bm h (S2 SA SF f) t) xs vs
 | 0, [], xs, vs, H, hx, _ => by
  cases hx
  simp only [ao, gk] at H
  exact ⟨rfl, H⟩
 | 0, _ :: _, _, _, _, hx, _ => by cases hx
 | n + 1, cs, xs, vs, H, hx, hf => by
  simp only [elems] at hx
  split at hx
  ·rename_i x r h1
   obtain ⟨l, hl, rfl⟩ := Option.map_eq_some_iff.1 hx
   obtain ⟨v1, v2, rfl, g1, g2, g3⟩ := xR H h1 hf
   obtain ⟨k1, k2⟩ := AZ g2 hl g3
   exact ⟨by simp [k1], v1, v2, rfl, g1, k2⟩
  ·cases hx
theorem wF {h : Array Obj} {SA : Nat → Prop} {SF : Loc → Prop} {β : Nat → Value} (t : Ty) : ∀ n, ao h SA SF β (xL t n) (List.replicate n (lU t)).flatten
 | 0 => .nil
 | n + 1 => (gZ t).append (wF t n)
theorem yP {t el : TypeId} {n : Nat} {j : TypeInfo} {z : Value} (hu : P.underlying t = some (.slice el)) (hj : P.info? el = some j) (hz : j.zero = some z) (hb : n * j.size ≤ 2 ^ 24)
  {parts : Array (Nat × Value)} {arr : Array Value} (hf : Instr.fill (fun i => some (i * j.size, j.size)) (madeCells z.cells (n * j.size)) parts.toList = some arr) :
  (Instr.buildSlice t n parts).run P w = .ok (.slice (some ⟨w.heap.size, 0, none⟩) n n) (w.alloc (.cells arr el)) := by
 have hn : ¬ n * j.size > 2 ^ 24 := by omega
 have hsz : (sizeOf el).run P w = .ok j.size w := by simp [sizeOf, typeInfo, hj]
 simp only [Instr.buildSlice, Sem.run_bind, run_underlying hu, Result.andThen_ok, hsz]
 rw [if_neg hn]
 by_cases h0 : n * j.size = 0
 ·rw [if_pos h0]
  rw [h0] at hf ⊢
  have e0 : madeCells z.cells 0 = #[] := by simp [madeCells]
  have e1 : (Array.range 0).map (fun x => (#[] : Array Value)[x % (#[] : Array Value).size]!) = #[] := by simp
  rw [e0] at hf
  simp only [Sem.run_bind, Sem.run_pure, Result.andThen_ok, e1, hf]
  simp [newRow]
 ·rw [if_neg h0]
  simp only [madeCells] at hf
  have hzz : (zeroValue el).run P w = .ok z w := by simp [zeroValue, typeInfo, hj, hz]
  simp only [Sem.run_bind, Sem.run_pure, Result.andThen_ok, hzz, hf]
  simp [newRow]
theorem vI (HT : mL P T) (H : aC c β SF e a w) (hN : c.ok d) (hF : lX e d) {t : TypeId} {n : Nat} {ps : Array (Nat × Operand)} {ef : pq} (h : nx T ve d t n ps.toList = some ef) :
  ff P ⟨some d, .buildSlice t n ps, ty, pos, af, gd⟩ a w (Rel c (e.aF ef.ws)) := by
 unfold nx at h
 split at h
 ·rename_i i hi
  obtain ⟨dd, hu, hdd⟩ := (HT _ _ hi).desc
  split at h
  ·rename_i el hd
   rw [hd] at hdd
   cases dd <;> simp only [dq] at hdd
   subst hdd
   split at h
   ·rename_i ei hei
    obtain ⟨j, hj, hjs, hjb, z, hz, hzc⟩ := (HT _ _ hei).info
    have hsz := (HT _ _ hei).size
    split at h
    ·rename_i cs hcs
     split at h
     ·rename_i cs' ws hst
      split at h
      ·rename_i xs hxs
       split at h
       ·rename_i hc
        cases h
        simp only [Bool.and_eq_true, Nat.ble_eq] at hc
        have hzs : z.cells.size = ei.size := by
         have := (n6 (h := w.heap) (fun _ => True) ei.ty).len
         rw [← hzc] at this
         rw [← hsz]
         simpa using this
        have hm := AY z.cells n n (Nat.le_refl _)
        rw [List.take_of_length_le (by rw [Array.length_toList, size_madeCells]; exact Nat.le_refl _), hzs, hzc] at hm
        have hz0 : ao w.heap c.SA SF β (xL ei.ty n) (madeCells z.cells (n * ei.size)).toList := by rw [hm]; exact wF _ _
        obtain ⟨arr, h1, h2⟩ := ug H (place := fun i => some (i * ei.size, ei.size)) (fun j p hp => by
         simp only [Bx, List.getElem?_map, Option.map_eq_some_iff] at hp
         obtain ⟨k, hk, rfl⟩ := hp
         rw [List.getElem?_range] at hk
         ·cases hk; rfl
         ·by_cases hj : j < n
          ·exact hj
          ·rw [List.getElem?_eq_none (by simpa using hj)] at hk; cases hk) hcs hz0
        obtain ⟨SF', k1, k2, k3, k4, k5⟩ := nz (Fm.refl e) H hst
        obtain ⟨q1, q2⟩ := AZ (f := iA cs') (k4 _ h2) hxs (fun h => h)
        have hlen : arr.size = n * ei.size := by
         have := q2.len
         rw [q1, hsz] at this
         simpa using this
        rw [Env.cA]
        have hrow := uh (et := el) (n := n) (m := n) (cells := arr) k3 hN (fun h => hF (k2.HW h)) q1 (Nat.le_refl _) (by
         have : n * 1 ≤ n * ei.size := Nat.mul_le_mul_left _ hc.2
         simp only [maxLen]; omega) (by rw [hlen, hsz]) (by rw [List.take_of_length_le (by rw [Array.length_toList, hlen, hsz]; exact Nat.le_refl _)]; exact q2)
        refine .inl ⟨_, _, ?_, hrow⟩
        have hr := yP (P := P) (w := w) (parts := ps.map fun (i, x) => (i, a.eval x)) (n := n) (arr := arr) hu hj hz (by rw [hjs]; omega) (by rw [hjs, ← h1]; simp)
        simp only [execOp, Sem.run_bind, hr, Result.andThen_ok]
        rfl
       ·cases h
      ·cases h
     ·cases h
    ·cases h
   ·cases h
  ·cases h
 ·cases h
end
end Go.Px
namespace Go.Px
open Go
section
variable {P : Program} {T : Types} {c : Ctx} {β : Nat → Value} {SF : Loc → Prop} {e e' : Env} {a : Act} {w : World} {ve : Env} [Sub ve e] {d : Nat} (ty : TypeId) (pos : String) (af : Array Edge) (gd : Option (Nat × Bool))
def Holds (h : Array Obj) (w : World) (S : Loc → Prop) (t : Ty) (xs : List t.den) (v : Value) : Prop :=
 ∃ A N C, v = .slice A N C ∧ xs.length = N ∧ (N = 0 ∨ ∃ ad vs, A = some ad ∧ b7 (bm h S t) xs vs ∧ ∀ j u, vs[j]? = some u → w.cell? (ad.add j) = some u)
theorem iJ {g off : Nat} {arr : Array Value} {et : TypeId} {fz : Nat × Nat} {k : Nat} (hg : w.heap[g]? = some (.cells arr et fz)) (j : Nat) (u : Value) (h : ((arr.toList.drop off).take k)[j]? = some u) :
  w.cell? ((⟨g, off, none⟩ : Addr).add j) = some u := by
 rw [Addr.add_mid, cell_of_row w g _ arr et fz hg]
 rw [List.getElem?_take] at h
 split at h
 ·rw [List.getElem?_drop] at h; simpa using h
 ·cases h
theorem wG (H : aC c β SF e a w) {cl : Cell} {v : Value} {t : Ty} {xs : List t.den} {f : Bool} (hc : aG w.heap c.SA SF β cl v) (h : content ve cl = some ⟨t, xs, f⟩) : Holds w.heap w (S2 c.SA SF f) t xs v := by
 unfold content at h
 split at h
 ·rename_i t' xs' f'
  cases h
  obtain ⟨A, N, C, hv, hl, hNC, hrow⟩ := hc
  simp only [List.cons.injEq, and_true] at hv
  refine ⟨A, N, C, hv, hl, ?_⟩
  rcases hrow with h0 | ⟨g, off, arr, et, fz, rfl, hS, harr, hle, hch⟩
  ·exact .inl h0
  ·exact .inr ⟨_, _, rfl, hch, fun j u hu => iJ harr j u hu⟩
 ·rename_i o
  split at h
  ·rename_i t' et xs' f' st ho
   cases h
   obtain ⟨rfl, A, N, C, hv⟩ := hc
   obtain ⟨vs, ho, hch⟩ := H.aY _ _ (bE ho)
   rcases ho with ⟨h1, ⟨h2, h3⟩ | ⟨g, b0, cap, cur, h2, _, h3, h4, h5, h6, h7⟩⟩
   ·exact ⟨none, 0, 0, h2, h3, .inl rfl⟩
   ·exact ⟨_, _, _, h2, rfl, .inr ⟨_, vs, rfl, hch, fun j u hu => iJ (off := b0) (k := xs.length * t.size) h3 j u (by rw [h7]; exact hu)⟩⟩
  ·cases h
 ·rename_i o t' lo n
  split at h
  ·rename_i t'' et xs' f' st ho
   split at h
   ·rename_i hb
    have hb := Ty.eq_of_beq hb
    subst hb
    cases h
    obtain ⟨A, N, C, hβ, h1, h2, hv⟩ := hc
    obtain ⟨vs, ho, hch⟩ := H.aY _ _ (bE ho)
    rw [hβ] at ho
    rcases ho with ⟨g1, ⟨g2, g3⟩ | ⟨g, b0, cap, cur, g2, _, g3, g4, g5, g6, g7⟩⟩
    ·cases g2
     refine ⟨_, _, _, hv, ?_, .inl (by omega)⟩
     simp only [List.length_drop, List.length_take]
     omega
    ·cases g2
     refine ⟨_, _, _, hv, ?_, ?_⟩
     ·simp only [List.length_drop, List.length_take]
      omega
     ·by_cases h0 : n = 0
      ·exact .inl h0
      ·rw [if_neg (by omega)]
       refine .inr ⟨_, _, rfl, (hch.take (lo + n)).drop lo, fun j u hu => ?_⟩
       show w.cell? (((⟨g, b0, none⟩ : Addr).add (lo * t.size)).add j) = some u
       rw [Addr.add_mid]
       rw [← g7, List.take_take, Nat.min_eq_left (Nat.mul_le_mul_right _ h1), List.drop_take, List.drop_drop] at hu
       exact iJ g3 j u hu
   ·cases h
  ·cases h
 ·cases h
theorem BP (H : aC c β SF e a w) {cl : Cell} {v : Value} {t : Ty} {xs : List t.den} {f : Bool} (hc : aG w.heap c.SA SF β cl v) (h : yx ve cl = some ⟨t, xs, f⟩) (hok : Dj ve cl = true) : Holds w.heap w (S2 c.SA SF f) t xs v := by
 unfold yx at h
 split at h
 ·rename_i et t' x f'
  obtain ⟨bs, hbs, he⟩ := Option.map_eq_some_iff.1 h
  cases he
  simp only [Dj, hbs, bH, Bool.or_eq_true, Bool.and_eq_true, Nat.beq_eq, Nat.ble_eq] at hok
  obtain ⟨A, N, C, hv, hl, hNC, hrow⟩ := hc
  simp only [List.cons.injEq, and_true] at hv
  refine ⟨A, N, C, hv, ?_, ?_⟩
  ·show (((ak bs x.1).take (x.2.1 + x.2.2)).drop x.2.1).length = N
   rw [List.length_drop, List.length_take]
   clear hrow
   omega
  ·by_cases h0 : N = 0
   ·exact .inl h0
   ·rcases hrow with ⟨hz, _⟩ | ⟨g, C', rfl, hle, hS⟩
    ·exact absurd hz h0
    ·obtain ⟨hlv, hlen⟩ := hok.resolve_left (by omega)
     obtain ⟨cur, hcur, h1, h2, h3, hch⟩ := (n8 H hbs).2.hit (hS.elim id fun h => h.2.elim) hlv
     refine .inr ⟨_, _, rfl, (hch.take (x.2.1 + x.2.2)).drop x.2.1, fun j u hu => ?_⟩
     rw [List.take_take, Nat.min_eq_left (Nat.mul_le_mul_right _ hlen), List.drop_take] at hu
     rw [List.drop_drop] at hu
     exact iJ hcur j u hu
 ·exact wG H hc h
theorem Holds.lT {h : Array Obj} {SA : Nat → Prop} {f : Bool} {t : Ty} {xs : List t.den} {v : Value} (hn : cE t = false) : Holds h w (S2 SA SF f) t xs v → Holds h w (S2 SA SF true) t xs v
 | ⟨A, N, C, h1, h2, h3⟩ => ⟨A, N, C, h1, h2, h3.imp id fun ⟨ad, vs, h4, h5, h6⟩ => ⟨ad, vs, h4, h5.mono fun _ _ hr => bm.lT (fun _ _ _ _ h => .inl (h.elim id fun h => h.2.elim)) hn hr, h6⟩⟩
theorem Dz (H : aC c β SF e a w) {cl : Cell} {v : Value} {t : Ty} {xs : List t.den} {f : Bool} (hc : aG w.heap c.SA SF β cl v) (h : news ve t cl = some (xs, f)) (hok : Dj ve cl = true) : Holds w.heap w (S2 c.SA SF f) t xs v := by
 unfold news at h
 split at h
 ·cases h
  exact ⟨none, 0, 0, hc, rfl, .inl rfl⟩
 ·split at h
  ·rename_i t' xs' f' h1
   split at h
   ·rename_i z hz
    cases h
    obtain ⟨rfl, hz⟩ := fX hz
    cases hz
    have h2 := BP H hc h1 hok
    cases hs : cE t' with
    | true => simpa using h2
    | false =>
     rw [Bool.not_false, Bool.or_true]
     exact Holds.lT hs h2
   ·cases h
  ·cases h
theorem DA {t ty el : TypeId} {j : TypeInfo} (hu : P.underlying t = some (.slice el)) (hj : P.info? el = some j) {base : Option Addr} {n cap C : Nat} (h : n ≤ cap) :
  (Builtin.append_ #[t, t] ty #[.slice base n cap, .slice none 0 C]).run P w = .ok (.slice base n cap) w := by
 cases base <;> simp [Builtin.append_, run_underlying hu, sizeOf, typeInfo, hj, Builtin.lenOf, Builtin.firstCells, h, storeCells]
theorem yQ (t ty e : TypeId) (i : TypeInfo) (ht : P.underlying t = some (.slice e)) (hi : P.info? e = some i)
  (g off sLen sCap : Nat) (cur : Array Value) (hg : w.heap[g]? = some (.cells cur e (0, 0)))
  (a : Addr) (m c : Nat) (news : List Value) (hl : news.length = m * i.size) (hnews : ∀ j u, news[j]? = some u → w.cell? (a.add j) = some u) (h1 : ∀ u ∈ news, u.oneCell' = true)
  (hroom : sLen + m ≤ sCap) (hfit : off + sLen * i.size + news.length ≤ cur.size) :
  (Builtin.append_ #[t, t] ty #[.slice (some ⟨g, off, none⟩) sLen sCap, .slice (some a) m c]).run P w =
   .ok (.slice (some ⟨g, off, none⟩) (sLen + m) sCap) (w.setRow g (cur.toList.take (off + sLen * i.size) ++ news ++ cur.toList.drop (off + sLen * i.size + news.length)).toArray) := by
 have hf := run_firstCells_some (P := P) w i.size m a m c news hl hnews
 have hst := run_storeCells_at P g (off + sLen * i.size) e news 0 cur w hg (by simpa using hfit) h1
 simp only [Nat.add_zero] at hst
 simp [Builtin.append_, run_underlying ht, sizeOf, typeInfo, hi, Builtin.lenOf, hroom, hf, Addr.add_lit, hst]
theorem xw (t ty e : TypeId) (i : TypeInfo) (z : Value) (ht : P.underlying t = some (.slice e)) (hi : P.info? e = some i) (hz : i.zero = some z) (hzs : z.cells.size = i.size)
  (v : Value) (n : Nat) (xs : List Value) (hown : w.fc 0 e i.size v n xs)
  (a : Addr) (m c : Nat) (news : List Value) (hl : news.length = m * i.size) (hnews : ∀ j u, news[j]? = some u → w.cell? (a.add j) = some u) (h1 : ∀ u ∈ news, u.oneCell' = true)
  (h63 : n + m ≤ maxLen) (hbytes : (n + m) * i.bytes ≤ 140737488355328) :
  ∃ v' w', (Builtin.append_ #[t, t] ty #[v, .slice (some a) m c]).run P w = .ok v' w' ∧ w'.fc 0 e i.size v' (n + m) (xs ++ news) ∧ w.grownBy w' v.ownBlock ∧ (v'.ownBlock = v.ownBlock ∨ v'.ownBlock = some w.heap.size) := by
 have hsmall : n + m ≤ 9223372036854775807 := by simp only [maxLen] at h63; omega
 have hlen : (xs ++ news).length = (n + m) * i.size := by rw [List.length_append, hown.1, hl, Nat.add_mul]
 have grown : ∀ (sr : Nat), sr < n + m → ∀ (row : Option Nat),
   (w.drew.alloc (.cells (xs.toArray ++ news.toArray ++ Builtin.zeroCells z.cells (grownCap w (n + m) sr e - (n + m))) e)).fc 0 e i.size
    (.slice (some ⟨w.heap.size, 0, none⟩) (n + m) (grownCap w (n + m) sr e)) (n + m) (xs ++ news) ∧
   w.grownBy (w.drew.alloc (.cells (xs.toArray ++ news.toArray ++ Builtin.zeroCells z.cells (grownCap w (n + m) sr e - (n + m))) e)) row := by
  intro sr ho row
  have hge := grownCap_ge w (n + m) sr e
  have hcm : grownCap w (n + m) sr e ≤ maxLen := grownCap_le_maxLen w (n + m) sr e h63
  refine ⟨⟨hlen, .inr ⟨w.heap.size, 0, _, _, rfl, Nat.zero_le _, heap_alloc_new w.drew _, hge, hcm, Nat.le_of_eq ?_, ?_⟩⟩, ⟨rfl, rfl, rfl, by simp, fun k hk _ => heap_alloc_old w.drew _ k hk⟩⟩
  ·rw [Nat.zero_add]
   simp only [Array.size_append, List.size_toArray, size_zeroCells, hzs, hown.1, hl, ← Nat.add_mul]
   congr 1
   omega
  ·rw [List.drop_zero]
   simp only [Array.toList_append, List.append_assoc]
   rw [← List.append_assoc, ← hlen]
   exact List.take_left
 rcases hown.2 with ⟨rfl, rfl⟩ | ⟨g, b0, cap, cur, rfl, hbg, hg, hnc, hcm, hcs, htake⟩
 ·have hx : xs = [] := List.eq_nil_of_length_eq_zero (by simpa using hown.1)
  subst hx
  by_cases hm : m = 0
  ·subst hm
   have hn : news = [] := List.eq_nil_of_length_eq_zero (by simpa using hl)
   subst hn
   refine ⟨.slice none 0 0, w, ?_, World.dW w 0 e i.size, ⟨rfl, rfl, rfl, Nat.le_refl _, fun _ _ _ => rfl⟩, .inl rfl⟩
   simp [Builtin.append_, run_underlying ht, sizeOf, typeInfo, hi, Builtin.lenOf, Builtin.firstCells, loadCells, loadCellsFrom]
  ·have hr := run_append_nil (P := P) w t ty e i z ht hi hz a m c news hl hnews (by omega) (by omega) (by have hb := hbytes; simp only [Nat.zero_add] at hb; omega)
   have hgr := grown 0 (by omega) (Value.ownBlock (.slice none 0 0))
   simp only [Nat.zero_add, List.nil_append, Array.empty_append] at hgr ⊢
   exact ⟨_, _, hr, hgr.1, hgr.2, .inr rfl⟩
 ·by_cases hroom : n + m ≤ cap
  ·have hfit : b0 + n * i.size + news.length ≤ cur.size := by
    rw [hl, Nat.add_assoc, ← Nat.add_mul]
    exact Nat.le_trans (Nat.add_le_add_left (Nat.mul_le_mul_right _ hroom) _) hcs
   have hr := yQ (P := P) (w := w) t ty e i ht hi g b0 n cap cur hg a m c news hl hnews h1 hroom hfit
   refine ⟨_, _, hr, ⟨hlen, .inr ⟨g, b0, cap, _, rfl, hbg, setRow_heap w g cur _ e _ hg, hroom, hcm, ?_, ?_⟩⟩, ⟨rfl, rfl, rfl, by simp, fun k _ hk => setRow_other w g k _ (fun e => hk (by simp [Value.ownBlock, e]))⟩, .inl rfl⟩
   ·simp only [List.size_toArray, List.length_append, List.length_take, List.length_drop, Array.length_toList]
    omega
   ·have hl1 : (cur.toList.take (b0 + n * i.size)).length = b0 + n * i.size := by
     rw [List.length_take, Array.length_toList]; omega
    simp only [List.append_assoc]
    rw [List.drop_append, hl1, show b0 - (b0 + n * i.size) = 0 by omega, List.drop_zero, List.drop_take, show b0 + n * i.size - b0 = n * i.size by omega, htake, ← List.append_assoc, ← hlen]
    exact List.take_left
  ·have holds : ∀ j u, xs[j]? = some u → w.cell? ((⟨g, b0, none⟩ : Addr).add j) = some u := fun j u hu => iJ (off := b0) (k := n * i.size) hg j u (by rw [htake]; exact hu)
   have hr := run_append_grow (P := P) w t ty e i z ht hi hz ⟨g, b0, none⟩ n cap xs hown.1 holds a m c news hl hnews (by omega) (by omega) (growslice_fits (by omega) hbytes)
   have hgr := grown cap (by omega) (Value.ownBlock (.slice (some ⟨g, b0, none⟩) n cap))
   exact ⟨_, _, hr, hgr.1, hgr.2, .inr rfl⟩
theorem tw (HT : mL P T) {t el : Nat} {ei : TI} (hu : P.underlying t = some (.slice el)) (hei : look T el = some ei) (h1 : 1 ≤ ei.size) (h2 : 1 ≤ ei.bytes) (ty : TypeId) {v x : Value} {n : Nat} {vs : List Value} {S : Loc → Prop} {ys : List ei.ty.den}
  (hown : w.fc 0 el ei.ty.size v n vs) (hx : Holds w.heap w S ei.ty ys x) (hb : (((n + ys.length : Nat)) : Int) * ei.bytes ≤ 140737488355328) :
  ∃ v' w' us, (Builtin.append_ #[t, t] ty #[v, x]).run P w = .ok v' w' ∧ w'.fc 0 el ei.ty.size v' (n + ys.length) (vs ++ us) ∧ b7 (bm w.heap S ei.ty) ys us ∧ w.grownBy w' v.ownBlock ∧
   (v'.ownBlock = v.ownBlock ∨ v'.ownBlock = some w.heap.size) := by
 obtain ⟨j, hj, hjs, hjb, z, hz, hzc⟩ := (HT _ _ hei).info
 have hsz := (HT _ _ hei).size
 have hzs : z.cells.size = ei.ty.size := by
  have := (n6 (h := w.heap) (fun _ => True) ei.ty).len
  rw [← hzc] at this
  simpa using this
 obtain ⟨A, N, C, rfl, hN, hc⟩ := hx
 subst hN
 have hb0 : (n + ys.length) * ei.bytes ≤ 140737488355328 := by
  rw [← Int.natCast_mul] at hb
  omega
 have hml : n + ys.length ≤ maxLen := by
  have : (n + ys.length) * 1 ≤ (n + ys.length) * ei.bytes := Nat.mul_le_mul_left _ h2
  simp only [maxLen]
  omega
 have hsome : ∀ ad us, b7 (bm w.heap S ei.ty) ys us → (∀ j u, us[j]? = some u → w.cell? (ad.add j) = some u) → A = some ad → ∃ v' w' us, (Builtin.append_ #[t, t] ty #[v, .slice A ys.length C]).run P w = .ok v' w' ∧
   w'.fc 0 el ei.ty.size v' (n + ys.length) (vs ++ us) ∧ b7 (bm w.heap S ei.ty) ys us ∧ w.grownBy w' v.ownBlock ∧ (v'.ownBlock = v.ownBlock ∨ v'.ownBlock = some w.heap.size) := by
  rintro ad us hch hcell rfl
  have e1 : j.size = ei.ty.size := by rw [hjs, hsz]
  obtain ⟨v', w', r1, r2, r3, r5⟩ := xw (P := P) (w := w) t ty el j z hu hj hz (by rw [e1, hzs]) v n vs (by rw [e1]; exact hown) ad ys.length C us (by rw [e1]; exact hch.len) hcell hch.one hml (by rw [hjb]; exact hb0)
  rw [e1] at r2
  exact ⟨v', w', us, r1, r2, hch, r3, r5⟩
 rcases hc with h0 | ⟨ad, us, rfl, hch, hcell⟩
 ·cases A with
  | some ad =>
   have hy : ys = [] := by simpa using h0
   subst hy
   exact hsome ad [] rfl (fun j u h => by simp at h) rfl
  | none =>
   have hy : ys = [] := by simpa using h0
   subst hy
   obtain ⟨B, m, cp, rfl, hm, hle⟩ : ∃ B m cp, v = .slice B m cp ∧ n = m ∧ m ≤ cp := by
    rcases hown with ⟨_, ⟨g2, g3⟩ | ⟨g, b0, cap, cur, g2, _, g3, g4, _⟩⟩
    ·exact ⟨_, _, _, g2, g3, Nat.le_refl _⟩
    ·exact ⟨_, _, _, g2, rfl, g4⟩
   subst hm
   exact ⟨_, w, [], DA hu hj hle, by simpa using hown, rfl, ⟨rfl, rfl, rfl, Nat.le_refl _, fun _ _ _ => rfl⟩, .inl rfl⟩
 ·exact hsome ad us hch hcell rfl
theorem fE {v : Value} (h : ∃ A n C, v = .slice A n C) : bo v = v.ownBlock := by
 obtain ⟨A, n, C, rfl⟩ := h
 cases A <;> rfl
theorem iq {b : Nat} {et : TypeId} {sz n : Nat} {v : Value} {vs : List Value} (h : w.fc b et sz v n vs) : ∃ A n C, v = .slice A n C := by
 rcases h with ⟨_, ⟨g2, g3⟩ | ⟨g, b0, cap, cur, g2, _⟩⟩
 ·exact ⟨_, _, _, g2⟩
 ·exact ⟨_, _, _, g2⟩
theorem DB {b : Nat} {et : TypeId} {sz m : Nat} {v0 v : Value} {vs : List Value} {a0 : Option Addr} {N cc n lo : Nat} (how : w.fc b et sz v0 m vs) (h0 : v0 = .slice a0 N cc) (hn : lo + n ≤ N)
  (hv : v = .slice (if cc = lo then a0 else a0.map (·.add (lo * sz))) n (cc - lo)) : w.fc b et sz v n ((vs.drop (lo * sz)).take (n * sz)) ∧ v.ownBlock = v0.ownBlock ∧ lo + n ≤ m := by
 obtain ⟨hl, h⟩ := how
 rcases h with ⟨h1, rfl⟩ | ⟨g, b0, cap, cur, h1, hb, hg, hm, hx, hs, hc⟩
 ·rw [h1] at h0
  cases h0
  obtain rfl : n = 0 := by omega
  obtain rfl : lo = 0 := by omega
  subst hv
  refine ⟨⟨by simp, .inl ⟨by simp, rfl⟩⟩, by rw [h1]; rfl, Nat.le_refl _⟩
 ·rw [h1] at h0
  cases h0
  have hlen : ((vs.drop (lo * sz)).take (n * sz)).length = n * sz := by
   rw [List.length_take, List.length_drop, hl]
   have : (lo + n) * sz ≤ m * sz := Nat.mul_le_mul_right _ hn
   rw [Nat.add_mul] at this
   omega
  by_cases h : cc = lo
  ·subst h
   rw [if_pos rfl] at hv
   rw [hv, h1]
   obtain rfl : n = 0 := by omega
   exact ⟨⟨hlen, .inr ⟨g, b0, _, cur, rfl, hb, hg, by omega, by omega, by rw [Nat.sub_self, Nat.zero_mul]; omega, by simp⟩⟩, rfl, hn⟩
  ·rw [if_neg h, Option.map_some, Addr.add_mid] at hv
   rw [hv, h1]
   refine ⟨⟨hlen, .inr ⟨g, b0 + lo * sz, cc - lo, cur, rfl, hb, hg, by omega, by omega, ?_, ?_⟩⟩, rfl, hn⟩
   ·have : lo * sz + (cc - lo) * sz = cc * sz := by rw [← Nat.add_mul]; congr 1; omega
    omega
   ·rw [← hc, List.drop_take, List.drop_drop, List.take_take, Nat.min_eq_left]
    rw [← Nat.sub_mul]
    exact Nat.mul_le_mul_right _ (by omega)
theorem grown (H : aC c β SF e a w) (hN : c.ok d) (hF : lX e d) {t : Ty} {et : TypeId} {v v' : Value} {w' : World} {xs ys : List t.den} {f f' : Bool} {vs us : List Value}
  (hr : w'.fc 0 et t.size v' (xs.length + ys.length) (vs ++ us)) (h1 : b7 (bm w.heap (S2 c.SA SF f) t) xs vs) (h2 : b7 (bm w.heap (S2 c.SA SF f') t) ys us)
  (hg : w.grownBy w' v.ownBlock) (hv : v'.ownBlock = v.ownBlock ∨ v'.ownBlock = some w.heap.size)
  {st : Nat} (hst : st = 0 ∨ st = 2) (hM : ∀ k, v.ownBlock = some k → ¬ c.SA k ∧ ¬ SF k ∧ (c.w0.heap.size ≤ k ∨ st = 2 ∧ c.tq k)) (hfree : ∀ o' ov' g, e.obj o' = some ov' → bI SF β o' ov' g → v.ownBlock ≠ some g) :
  Rel c (e.aF [.obj (nm d 0) (some (.row t et (xs ++ ys) (f && f') st)), bz d (.row (nm d 0))]) (a.put (some d) v') w' := by
 have hlt : ∀ k, c.SA k ∨ SF k → k < w.heap.size := fun k hk => hk.elim (fun h => Nat.lt_of_lt_of_le (H.sa k h).1 H.size) (fun h => (H.sf k h).2)
 have hh : ∀ k, c.SA k ∨ SF k → w'.heap[k]? = w.heap[k]? := fun k hk => hg.block k (hlt k hk) fun h => hk.elim (hM k h.symm).1 (hM k h.symm).2.1
 have hsl := iq hr
 have hob : cS c.SA SF (AU β (nm d 0) v') w' (nm d 0) (.row t et (xs ++ ys) (f && f') st) := by
  refine ⟨vs ++ us, by rw [bT, List.length_append]; exact hr, b7.append (h1.mono fun _ _ hr => ?_) (h2.mono fun _ _ hr => ?_)⟩
  ·exact bm.mono (S2.xq f _ fun h => by rw [h]; rfl) (fun k hk => hh k (S2.sub _ hk)) hr
  ·exact bm.mono (S2.xq f' _ fun h => by rw [h]; cases f <;> rfl) (fun k hk => hh k (S2.sub _ hk)) hr
 have hown : ∀ g, g < w'.heap.size → (c.w0.heap.size ≤ g ∨ st = 2 ∧ c.tq g) → ¬ SF g → g < w'.heap.size ∧ (((OV.row t et (xs ++ ys) (f && f') st).st = 0 ∧ c.w0.heap.size ≤ g ∧ ¬ SF g) ∨ ((OV.row t et (xs ++ ys) (f && f') st).st = 1 ∧ SF g) ∨
   ((OV.row t et (xs ++ ys) (f && f') st).st = 2 ∧ (c.tq g ∨ c.w0.heap.size ≤ g ∧ ¬ SF g))) := fun g hl h1 h2 => ⟨hl, by
  simp only [OV.st]
  rcases h1 with h1 | h1
  ·rcases hst with h | h
   ·exact .inl ⟨h, h1, h2⟩
   ·exact .inr (.inr ⟨h, .inr ⟨h1, h2⟩⟩)
  ·exact .inr (.inr ⟨h1.1, .inl h1.2⟩)⟩
 have hn := H.new (w' := w') (v := v') hF (fun k => v.ownBlock = some k) hg.os hg.tape hg.output hg.size (fun k hk hne => hg.block k hk fun h => hne h.symm) (fun k hk => ⟨(hM k hk).1, (hM k hk).2.1, (hM k hk).2.2.imp id fun h => h.2⟩)
  (fun o' ov' g h1 h2 h3 => hfree o' ov' g h1 h2 h3) (ov := .row t et (xs ++ ys) (f && f') st) hob (fun g hg' => by
   rw [fE hsl] at hg'
   have hl := (hr.lt g hg').2
   rcases hv with h | h
   ·rw [h] at hg'
    obtain ⟨q1, q2⟩ := hown g hl (hM g hg').2.2 (hM g hg').2.1
    exact ⟨q1, q2, fun o' ov' h1 h2 => hfree o' ov' g h1 h2 hg'⟩
   ·rw [h] at hg'
    cases hg'
    obtain ⟨q1, q2⟩ := hown _ hl (.inl H.size) (fun hs => by have := (H.sf _ hs).2; omega)
    exact ⟨q1, q2, fun o' ov' h1 h2 => by have := (H.own _ _ _ h1 h2).1; omega⟩)
 exact ⟨_, _, hn.slot d hN _ _ fun y hy => by cases hy; exact ⟨(bT _ _).symm, hsl⟩⟩
def tx (c : Ctx) (SF : Loc → Prop) (a : Act) (w : World) (u : Env) : Prop := ∀ {x : Operand} {cl : Cell} {t : Ty} {xs : List t.den} {f : Bool}, fb u x = some cl → news u t cl = some (xs, f) → Dj u cl = true → Holds w.heap w (S2 c.SA SF f) t xs (a.eval x)
theorem aC.JE (H : aC c β SF e a w) : tx c SF a w ve := fun h h1 h2 => Dz H (aW H h) h1 h2
def isApp (o : Oper) : Bool := match o.op with
 | .call { callee := .builtin .append, .. } => true
 | _ => false
theorem BQ (HT : mL P T) (H : aC c β SF e a w) {u : Env} (Hn : tx c SF a w u) (hN : c.ok d) (hF : lX e d) {t : TypeId} {s x : Operand} {ef : pq} {C : Call} {argTypes : Array TypeId} (hC : C = { callee := .builtin .append, args := #[s, x], argTypes })
  (hty : argTypes.toList = [t, t]) (h : vz T u ve d t s x = some ef) (hok : ef.ok = true) :
  ff P ⟨some d, .call C, ty, pos, af, gd⟩ a w (Rel c (e.aF ef.ws)) := by
 have hA : argTypes = #[t, t] := by cases argTypes; simp at hty; rw [hty]
 subst hA
 have hrun : ∀ {v' : Value} {w' : World}, (∀ ty, (Builtin.append_ #[t, t] ty #[a.eval s, a.eval x]).run P w = .ok v' w') → (execOp a.eval ⟨some d, .call C, ty, pos, af, gd⟩).run P w = .ok (.value v') w' := fun hr =>
  jo ty pos af gd hC fun ty cs => by simp [builtin, hr ty]
 unfold vz at h
 split at h
 ·rename_i i hi
  obtain ⟨dd, hu, hdd⟩ := (HT _ _ hi).desc
  split at h
  ·rename_i el hd
   rw [hd] at hdd
   cases dd <;> simp only [dq] at hdd
   subst hdd
   split at h
   ·rename_i ei cs cx hei hs hx
    have hs := aW H hs
    split at h
    ·rename_i hb
     simp only [Bool.and_eq_true, Nat.ble_eq] at hb
     split at h
     ·cases h
     ·rename_i new f' hnew
      split at h
      ·cases h
       simp only [Bool.and_eq_true, decide_eq_true_eq] at hok
       obtain ⟨hokA, hok⟩ := hok
       have hnew := Hn hx hnew hokA
       have hs : a.eval s = .slice none 0 0 := hs
       rw [hs] at hrun
       obtain ⟨v', w', us, r1, r2, r3, r4, r5⟩ := tw (n := 0) HT hu hei hb.1 hb.2 0 (World.dW w 0 el ei.ty.size) hnew (by simpa using hok)
       refine .inl ⟨v', w', hrun fun ty => ?_, ?_⟩
       ·exact r1
       ·exact grown (xs := ([] : List ei.ty.den)) (f := true) H hN hF (by simpa using r2) rfl r3 r4 r5 (.inl rfl) (fun k hk => by cases hk) (fun _ _ _ _ _ hk => by cases hk)
      ·rename_i o _
       split at h
       ·rename_i t' e' xs f st ho
        split at h
        ·rename_i xs' hxs
         obtain ⟨rfl, hxs⟩ := fX hxs
         cases hxs
         split at h
         ·rename_i hc
          cases h
          simp only [Bool.and_eq_true, Bool.or_eq_true, Nat.beq_eq] at hc
          obtain ⟨rfl, hc⟩ := hc
          have ho := bE (e := e) ho
          obtain ⟨vs, how, hch⟩ := H.aY _ _ ho
          obtain ⟨hs1, hs2⟩ := hs
          rw [← hs1] at how
          simp only [List.length_append, Bool.and_eq_true, decide_eq_true_eq] at hok
          obtain ⟨hokA, hok⟩ := hok
          have hnew := Hn hx hnew hokA
          obtain ⟨v', w', us, r1, r2, r3, r4, r5⟩ := tw HT hu hei hb.1 hb.2 0 how hnew hok
          have hob : bo (β o) = (a.eval s).ownBlock := by rw [← hs1]; exact fE hs2
          refine .inl ⟨v', w', hrun fun ty => ?_, ?_⟩
          ·exact r1
          ·rw [Env.a7]
           refine grown (H.drop o) hN (fun hj' => hF ?_) r2 hch r3 r4 r5 hc (fun k hk => ?_) (fun o' ov' g h1 h2 h3 => ?_)
           ·rcases hj' with ⟨s, sv, h1, h2⟩ | ⟨n, ov, h1, h2⟩
            ·exact .inl ⟨s, sv, h1, h2⟩
            ·rw [ai] at h1
             split at h1
             ·cases h1
             ·exact .inr ⟨n, ov, h1, h2⟩
           ·rw [← hob] at hk
            have hl := H.loose ho (by simp only [OV.st]; omega) hk
            refine ⟨hl.1, hl.2.1, ?_⟩
            rcases (H.own _ _ k ho hk).2 with h | h | h
            ·exact .inl h.2.1
            ·exact absurd h.1 (by simp only [OV.st]; omega)
            ·exact h.2.elim (fun hb => .inr ⟨h.1, hb⟩) (fun hb => .inl hb.1)
           ·rw [ai] at h1
            split at h1
            ·cases h1
            ·rename_i hne
             exact H.inj o o' _ _ g hne ho h1 (show bo (β o) = some g by rw [hob]; exact h3) h2
         ·cases h
        ·cases h
       ·cases h
      ·rename_i o t0 lo n _
       split at h
       ·rename_i t' e' xs f st ho
        split at h
        ·rename_i xs' hxs
         obtain ⟨rfl, hxs⟩ := fX hxs
         cases hxs
         split at h
         ·rename_i hc
          cases h
          simp only [Bool.and_eq_true, Bool.or_eq_true, Nat.beq_eq] at hc
          obtain ⟨⟨hb3, rfl⟩, hc⟩ := hc
          have hb3 := Ty.eq_of_beq hb3
          subst hb3
          have ho := bE (e := e) ho
          obtain ⟨vs, how, hch⟩ := H.aY _ _ ho
          obtain ⟨a0, N, cc, hs1, hs2, _, hs4⟩ := hs
          obtain ⟨hcut, hbl, oN⟩ := DB how hs1 hs2 hs4
          have hxn : (List.drop lo (List.take (lo + n) xs')).length = n := by rw [List.length_drop, List.length_take]; omega
          have hch2 := (hch.take (lo + n)).drop lo
          have e9 : (vs.take ((lo + n) * ei.ty.size)).drop (lo * ei.ty.size) = (vs.drop (lo * ei.ty.size)).take (n * ei.ty.size) := by
           rw [List.drop_take, ← Nat.sub_mul, Nat.add_sub_cancel_left]
          rw [e9] at hch2
          simp only [List.length_append, hxn, Bool.and_eq_true, decide_eq_true_eq] at hok
          obtain ⟨hokA, hok⟩ := hok
          have hnew := Hn hx hnew hokA
          obtain ⟨v', w', us, r1, r2, r3, r4, r5⟩ := tw HT hu hei hb.1 hb.2 0 hcut hnew hok
          have hob : bo (β o) = (a.eval s).ownBlock := by rw [hbl]; exact fE ⟨_, _, _, hs1⟩
          refine .inl ⟨v', w', hrun fun ty => ?_, ?_⟩
          ·exact r1
          ·rw [Env.a7]
           refine grown (xs := List.drop lo (List.take (lo + n) xs')) (H.drop o) hN (fun hj' => hF ?_) (by rw [hxn]; exact r2) hch2 r3 r4 r5 hc (fun k hk => ?_) (fun o' ov' g h1 h2 h3 => ?_)
           ·rcases hj' with ⟨s, sv, h1, h2⟩ | ⟨n, ov, h1, h2⟩
            ·exact .inl ⟨s, sv, h1, h2⟩
            ·rw [ai] at h1
             split at h1
             ·cases h1
             ·exact .inr ⟨n, ov, h1, h2⟩
           ·rw [← hob] at hk
            have hl := H.loose ho (by simp only [OV.st]; omega) hk
            refine ⟨hl.1, hl.2.1, ?_⟩
            rcases (H.own _ _ k ho hk).2 with h | h | h
            ·exact .inl h.2.1
            ·exact absurd h.1 (by simp only [OV.st]; omega)
            ·exact h.2.elim (fun hb => .inr ⟨h.1, hb⟩) (fun hb => .inl hb.1)
           ·rw [ai] at h1
            split at h1
            ·cases h1
            ·rename_i hne
             exact H.inj o o' _ _ g hne ho h1 (show bo (β o) = some g by rw [hob]; exact h3) h2
         ·cases h
        ·cases h
       ·cases h
      ·cases h
    ·cases h
   ·cases h
  ·cases h
 ·cases h
end
end Go.Px
namespace Go.Px
open Go MapKept
def jq (k : IntKind) (es : List (ByteArray × Int)) : List (Value × Value) := es.map fun p => (Value.string p.1, Value.int k p.2)
def hZ (ents : List MapEntry) : List (Value × Value) := ents.map fun e => (e.key, e.val)
theorem yR (a b : ByteArray) : (a.toList == b.toList) = (a == b) := by
 rw [Bool.eq_iff_iff, bytes_beq, beq_iff_eq]
 exact ⟨fun h => by
  rw [ByteArray.toList_eq, ByteArray.toList_eq] at h
  exact congrArg ByteArray.mk (Array.toList_inj.1 h), fun h => by rw [h]⟩
theorem A0 {k : IntKind} {s : ByteArray} : ∀ {ents : List MapEntry} {es : List (ByteArray × Int)} (i : Nat), hZ ents = jq k es → HH es s = false →
  Instr.findNow .string (.string s) ents i = some none ∧ BC es s = 0 ∧ ∀ n, BB es s n = es ++ [(s, n)]
 | [], [], _, _, _ => ⟨rfl, rfl, fun _ => rfl⟩
 | [], _ :: _, _, h, _ => by cases h
 | _ :: _, [], _, h, _ => by cases h
 | e :: ents, p :: es, i, h, hm => by
  simp only [hZ, jq, List.map_cons, List.cons.injEq, Prod.mk.injEq] at h
  obtain ⟨⟨h1, h2⟩, h3⟩ := h
  simp only [HH, List.any_cons, Bool.or_eq_false_iff] at hm
  obtain ⟨i1, i2, i3⟩ := A0 (i + 1) h3 hm.2
  have hs : (s == p.1) = false := by rw [← yR]; exact hm.1
  refine ⟨?_, ?_, fun n => ?_⟩
  ·simp only [Instr.findNow, h1, Instr.sameNow, hs]
   exact i1
  ·simp only [BC, hm.1, cond_false]; exact i2
  ·simp only [BB, hm.1, cond_false, i3, List.cons_append]
theorem vJ {k : IntKind} {s : ByteArray} : ∀ {ents : List MapEntry} {es : List (ByteArray × Int)} (i : Nat), hZ ents = jq k es → HH es s = true →
  ∃ j e, Instr.findNow .string (.string s) ents i = some (some (i + j, .int k (BC es s))) ∧ ents[j]? = some e ∧ e.key = .string s ∧ ∀ n, jq k (BB es s n) = hZ (ents.set j { e with key := .string s, val := .int k n })
 | [], [], _, _, h => by cases h
 | [], _ :: _, _, h, _ => by cases h
 | _ :: _, [], _, h, _ => by cases h
 | e :: ents, p :: es, i, h, hm => by
  simp only [hZ, jq, List.map_cons, List.cons.injEq, Prod.mk.injEq] at h
  obtain ⟨⟨h1, h2⟩, h3⟩ := h
  cases hs : (s.toList == p.1.toList) with
  | true =>
   have hs' : (s == p.1) = true := by rw [← yR]; exact hs
   have hse := (bytes_beq _ _).1 hs'
   refine ⟨0, e, ?_, rfl, by rw [h1, hse], fun n => ?_⟩
   ·simp only [Instr.findNow, h1, Instr.sameNow, hs', BC, hs, cond_true, h2, Nat.add_zero]
   ·simp only [BB, hs, cond_true, List.set_cons_zero, hZ, jq, List.map_cons]
    rw [← show jq k es = _ from h3.symm]
    rfl
  | false =>
   simp only [HH, List.any_cons, hs, Bool.false_or] at hm
   have hs' : (s == p.1) = false := by rw [← yR]; exact hs
   obtain ⟨j, e', i1, i2, i3, i4⟩ := vJ (i + 1) h3 hm
   refine ⟨j + 1, e', ?_, i2, i3, fun n => ?_⟩
   ·simp only [Instr.findNow, h1, Instr.sameNow, hs', BC, hs, cond_false]
    rw [i1, show i + 1 + j = i + (j + 1) by omega]
   ·simp only [BB, hs, cond_false, List.set_cons_succ, hZ, jq, List.map_cons]
    have := i4 n
    simp only [hZ, jq] at this
    rw [this, h1, h2]
section
variable {P : Program} {T : Types} {c : Ctx} {β : Nat → Value} {SF : Loc → Prop} {e e' : Env} {a : Act} {w : World} {ve : Env} [Sub ve e] {d : Nat} (ty : TypeId) (pos : String) (af : Array Edge) (gd : Option (Nat × Bool))
theorem DC (HT : mL P T) {t : Nat} {k : IntKind} (h : mapOf T t = some k) : ∃ kt et, P.underlying t = some (.map kt et) ∧ P.underlying kt = some .string := by
 unfold mapOf at h
 split at h
 ·rename_i i hi
  split at h
  ·rename_i kt et hd
   split at h
   ·rename_i ki ei hki hei
    split at h
    ·rename_i kk h1 h2
     cases h
     obtain ⟨d1, u1, D1⟩ := (HT _ _ hi).desc
     obtain ⟨d2, u2, D2⟩ := (HT _ _ hki).desc
     rw [hd] at D1
     rw [h1] at D2
     cases d1 <;> simp only [dq] at D1
     cases d2 <;> simp only [dq] at D2
     obtain ⟨rfl, rfl⟩ := D1
     exact ⟨_, _, u1, u2⟩
    ·cases h
   ·cases h
  ·cases h
 ·cases h
theorem Aj (H : aC c β SF e a w) (hN : c.ok d) (hF : lX e d) {t : TypeId} {ef : pq} (h : tn T d t = some ef) :
  ff P ⟨some d, .makeMap t none, ty, pos, af, gd⟩ a w (Rel c (e.aF ef.ws)) := by
 unfold tn at h
 split at h
 ·rename_i k hk
  cases h
  refine .inl ⟨.map (some w.heap.size), w.alloc (.map #[] 0), by simp [execOp, Instr.makeMap, Result.andThen], ?_⟩
  have hob : cS c.SA SF (AU β (nm d 0) (.map (some w.heap.size))) (w.alloc (.map #[] 0)) (nm d 0) (.mp k [] 0) := ⟨_, #[], 0, bT _ _, (heap_alloc w _).1, rfl⟩
  have h1 := H.new (w' := w.alloc (.map #[] 0)) hF (fun _ => False) rfl rfl rfl (by rw [World.size_alloc]; exact Nat.le_succ _) (fun k hk _ => (heap_alloc w _).2 k hk) (fun _ h => h.elim) (fun _ _ _ _ _ h => h) hob (fun g hg => by
   cases hg
   exact ⟨by rw [World.size_alloc]; exact Nat.lt_succ_self _, .inl ⟨rfl, H.size, fun hs => by have := (H.sf _ hs).2; omega⟩, fun o' ov' ho' hg => by have := (H.own _ _ _ ho' hg).1; omega⟩)
  exact ⟨_, _, h1.slot d hN _ _ fun y hy => by cases hy; exact ⟨(bT _ _).symm, _, rfl⟩⟩
 ·cases h
theorem Fo {t : TypeId} {kt et : TypeId} {k : IntKind} {g : Nat} {ents : Array MapEntry} {ck : Nat} {es : List (ByteArray × Int)} (hu : P.underlying t = some (.map kt et)) (hk : P.underlying kt = some .string)
  (hg : w.heap[g]? = some (.map ents ck)) (he : hZ ents.toList = jq k es) (s : ByteArray) (n : Int) :
  ∃ ents' ck', (Instr.mapUpdate t (.map (some g)) (.string s) (.int k n)).run P w = .ok () { w with heap := w.heap.setIfInBounds g (.map ents' ck') } ∧ hZ ents'.toList = jq k (BB es s n) := by
 have hkey : IsKey .string (.string s) := trivial
 cases hm : HH es s with
 | false =>
  obtain ⟨h1, _, h3⟩ := A0 0 he hm
  refine ⟨_, _, by simp [Instr.mapUpdate, run_underlying hu, MapKept.run_getObj_map hg, run_checkKey hk hkey, run_findKey hk h1, MapKept.run_setObj_map _ hg, Result.andThen]; exact rfl, ?_⟩
  rw [h3]
  simp only [Array.toList_push, hZ, jq, List.map_append, List.map_cons, List.map_nil] at he ⊢
  rw [he]
 | true =>
  obtain ⟨j, en, h1, h2, h3, h4⟩ := vJ 0 he hm
  have hj : ents[j]? = some en := by simpa using h2
  rw [Nat.zero_add] at h1
  refine ⟨_, _, by simp [Instr.mapUpdate, run_underlying hu, MapKept.run_getObj_map hg, run_checkKey hk hkey, run_findKey hk h1, hj, h3, run_keyThatStays hkey, MapKept.run_setObj_map _ hg, Result.andThen]; exact rfl, ?_⟩
  rw [h4]
  congr 1
  have hjl : j < ents.size := (Array.getElem?_eq_some_iff.1 hj).1
  apply List.ext_getElem?
  intro i
  by_cases hi : j = i
  ·subst hi
   rw [List.getElem?_set_self (by simpa using hjl)]
   simp [hj]
  ·rw [List.getElem?_set_ne hi]
   simp [hi]
theorem ui (HT : mL P T) (H : aC c β SF e a w) {t : TypeId} {m x y : Operand} {ef : pq} (h : rm T ve t m x y = some ef) (o : Oper)
  (ho : o.dst = none ∧ (o.op = .mapUpdate t m x y ∨ o.op = .insert t m x y)) : ff P o a w (Rel c (e.aF ef.ws)) := by
 unfold rm at h
 split at h
 ·rename_i k b s f k' n hk hm hx hy
  obtain ⟨kt, et, hu, hks⟩ := DC HT hk
  obtain ⟨g0, hg0⟩ : ∃ g0, a.eval m = .map (some g0) ∧ a.eval m = β b := by
   obtain ⟨h1, g0, h2⟩ := aW H hm
   exact ⟨g0, h2, h1⟩
  have hx := mU (aW H hx)
  have hy := dN H hy
  split at h
  ·rename_i k'' es st hob
   split at h
   ·rename_i hc
    cases h
    simp only [Bool.and_eq_true, Bool.or_eq_true, Nat.beq_eq] at hc
    obtain ⟨c1, c2, c3⟩ := hc
    have c1 := Ty.dH c1
    have c2 := Ty.dH c2
    subst c1
    subst c2
    have hob := bE (e := e) hob
    obtain ⟨g, ents, ck, h1, h2, h3⟩ := H.aY _ _ hob
    have hgg : g0 = g := by
     have := hg0.1.symm.trans (hg0.2.trans h1)
     simpa using this
    subst hgg
    obtain ⟨ents', ck', r1, r2⟩ := Fo (P := P) hu hks h2 h3 s n
    refine .inr ⟨{ w with heap := w.heap.setIfInBounds g0 (.map ents' ck') }, ?_, β, SF, ?_⟩
    ·obtain ⟨dst, op, ty, pos, af, gd⟩ := o
     obtain ⟨ho1, ho2⟩ := ho
     simp only at ho1 ho2
     subst ho1
     rcases ho2 with rfl | rfl <;> simp only [execOp, hg0.1, hx, hy, Sem.run_bind, r1, Result.andThen_ok] <;> rfl
    ·rw [ho.1]
     have hown : bo (β b) = some g0 := by rw [h1]; rfl
     exact H.rewrite (ov' := .mp k (BB es s n) st) (w' := { w with heap := w.heap.setIfInBounds g0 (.map ents' ck') }) hob rfl (by simp only [OV.st]; omega) rfl rfl rfl (by simp) (fun k hk hne => (heap_set h2).2 k (fun he => hne (show bo (β b) = some k by rw [hown, he]))) ⟨g0, ents', ck', h1, (heap_set h2).1, r2⟩
   ·cases h
  ·cases h
 ·cases h
theorem BR (HT : mL P T) (H : aC c β SF e a w) (hN : c.ok d) {t : TypeId} {m x : Operand} {ef : pq} (h : vA T ve d t m x = some ef) (hok : ef.ok = true) :
  ff P ⟨some d, .lookup t m x false, ty, pos, af, gd⟩ a w (Rel c (e.aF ef.ws)) := by
 unfold vA at h
 split at h
 ·rename_i k b s f hk hm hx
  obtain ⟨kt, et, hu, hks⟩ := DC HT hk
  obtain ⟨hb, g0, hg0⟩ := aW H hm
  have hx := mU (aW H hx)
  split at h
  ·rename_i k' es st hob
   split at h
   ·rename_i hc
    cases h
    have hc := Ty.dH hc
    subst hc
    obtain ⟨g, ents, ck, h1, h2, h3⟩ := H.aY _ _ (bE hob)
    have hgg : g0 = g := by
     have := hg0.symm.trans (hb.trans h1)
     simpa using this
    subst hgg
    obtain ⟨j, en, f1, f2, f3, _⟩ := vJ 0 (show hZ ents.toList = jq k es from h3) hok
    have hkey : IsKey .string (.string s) := trivial
    refine .pure (x := .cell (.val (.int k) (BC es s) true)) (v := .int k (BC es s)) H rfl hN ?_ rfl
    simp only [execOp, hg0, hx]
    simp [Instr.lookup, run_underlying hu, MapKept.run_getObj_map h2, run_checkKey hks hkey, run_findKey hks f1, Result.andThen]
   ·cases h
  ·cases h
 ·cases h
end
end Go.Px
namespace Go.Px
open Go
theorem qg {α : Type} (l c : List α) (b k m : Nat) (h : b + k ≤ l.length) : (l.take (b + k) ++ c ++ l.drop (b + k + m)).drop b = (l.drop b).take k ++ c ++ (l.drop b).drop (k + m) := by
 rw [List.append_assoc, List.drop_append, List.length_take, Nat.min_eq_left h, show b - (b + k) = 0 by omega, List.drop_zero, List.drop_take, show b + k - b = k by omega, List.drop_drop, List.append_assoc, Nat.add_assoc]
theorem GB {α : Type} (cur u : List α) (n j s off : Nat) (hn : n * s ≤ cur.length) (hj : j < n) (ho : off + u.length ≤ s) :
  (cur.take (j * s + off) ++ u ++ cur.drop (j * s + off + u.length)).take (n * s) =
   ((cur.take (n * s)).take (j * s)) ++ ((((cur.take (n * s)).drop (j * s)).take s).take off ++ u ++ (((cur.take (n * s)).drop (j * s)).take s).drop (off + u.length)) ++ (cur.take (n * s)).drop (j * s + s) := by
 have h1 : j * s + s ≤ n * s := by rw [← Nat.succ_mul]; exact Nat.mul_le_mul_right s hj
 generalize j * s = p at *
 generalize n * s = q at *
 apply List.ext_getElem?
 intro i
 simp only [List.getElem?_append, List.getElem?_take, List.getElem?_drop, List.length_append, List.length_take, List.length_drop]
 by_cases c1 : i < p
 ·rw [if_pos (by omega), if_pos (by omega), if_pos (by omega), if_pos (by omega), if_pos (by omega), if_pos (by omega), if_pos (by omega), if_pos (by omega)]
 ·by_cases c2 : i < p + off
  ·rw [if_pos (by omega), if_pos (by omega), if_pos (by omega), if_pos (by omega), if_pos (by omega), if_neg (by omega), if_pos (by omega), if_pos (by omega), if_pos (by omega), if_pos (by omega), if_pos (by omega)]
   congr 1; omega
  ·by_cases c3 : i < p + off + u.length
   ·rw [if_pos (by omega), if_pos (by omega), if_neg (by omega), if_pos (by omega), if_neg (by omega), if_pos (by omega), if_neg (by omega)]
    congr 1; omega
   ·by_cases c4 : i < p + s
    ·rw [if_pos (by omega), if_neg (by omega), if_pos (by omega), if_neg (by omega), if_neg (by omega), if_pos (by omega), if_pos (by omega)]
     congr 1; omega
    ·by_cases c5 : i < q
     ·rw [if_pos (by omega), if_neg (by omega), if_neg (by omega), if_pos (by omega)]
      congr 1; omega
     ·rw [if_neg (by omega), if_neg (by omega), if_neg (by omega)]
section
variable {P : Program} {T : Types} {c : Ctx} {β : Nat → Value} {SF : Loc → Prop} {e e' : Env} {a : Act} {w : World} {ve : Env} [Sub ve e] {d : Nat} (ty : TypeId) (pos : String) (af : Array Edge) (gd : Option (Nat × Bool))
theorem aC.apart (H : aC c β SF e a w) {o : Nat} {ov : OV} (ho : e.obj o = some ov) (hst : ov.st ≠ 1) {g : Nat} (hg : bI SF β o ov g) : ∀ k, c.SA k ∨ SF k → k ≠ g := by
 intro k hk he
 subst he
 have := H.loose ho hst hg
 exact hk.elim this.1 this.2.1
theorem qh (HT : mL P T) {t : Nat} {i : TI} (hi : look T t = some i) {g off : Nat} {arr : Array Value} {et : TypeId} (hg : w.heap[g]? = some (.cells arr et (0, 0))) {v : Value} (hs : v.cells.size = i.size) (hl : off + i.size ≤ arr.size)
  (h1 : ∀ u ∈ v.cells.toList, u.oneCell' = true) :
  (Instr.storeAt t (.pointer (some ⟨g, off, none⟩)) v).run P w = .ok () (w.setRow g (arr.toList.take off ++ v.cells.toList ++ arr.toList.drop (off + v.cells.toList.length)).toArray) := by
 obtain ⟨j, hj, hjs, _⟩ := (HT _ _ hi).info
 have := run_storeCells_at (P := P) g off et v.cells.toList 0 arr w hg (by simp; omega) h1
 simp only [Instr.storeAt, Instr.sureAddr, Sem.run_bind, Sem.run_pure, Result.andThen_ok, storeVar]
 have hsz : (sizeOf t).run P w = .ok i.size w := by simp [sizeOf, typeInfo, hj, hjs]
 simp only [hsz, Result.andThen_ok]
 rw [if_neg (by simp [hs])]
 exact this
theorem vK {α : Type} {bs : List (Option (List α))} {x : Option (List α)} {k i : Nat} {xs : List α} (h : (eY bs x k)[i]? = some (some xs)) : (k = i + 1 ∧ x = some xs) ∨ (k ≠ i + 1 ∧ bs[i]? = some (some xs)) := by
 cases k with
 | zero => exact .inr ⟨by omega, h⟩
 | succ j =>
  simp only [eY, List.getElem?_set] at h
  split at h
  ·subst_vars
   split at h
   ·cases h; exact .inl ⟨rfl, rfl⟩
   ·cases h
  ·exact .inr ⟨by omega, h⟩
theorem xT {α : Type} {bs : List (Option (List α))} {x : Option (List α)} {k : Nat} : (eY bs x k).length = bs.length := by
 cases k <;> simp [eY]
theorem dy.write {h h' : Array Obj} {SA : Nat → Prop} {t : Ty} {et k g : Nat} {C : Nat × Nat} {bs : List (Option (List t.den))} {zs : List t.den} {cur : Array Value} (M : dy h SA SF t et bs) (hS : SF (.m et k g C)) (hl : fI bs k = true)
  (hh : ∀ n, SA n ∨ SF n → h'[n]? = h[n]?) (ho : ∀ n, n ≠ g → h'[n]? = h[n]?) (hg : h'[g]? = some (.cells cur et (0, 0))) (h1 : zs.length ≤ C.2) (h2 : C.2 ≤ maxLen) (h3 : C.1 + C.2 * t.size ≤ cur.size)
  (hch : b7 (bm h (S2 SA SF true) t) zs ((cur.toList.drop C.1).take (zs.length * t.size))) : dy h' SA SF t et (eY bs (some zs) k) := by
 have hm : ∀ {xs : List t.den} {vs : List Value}, b7 (bm h (S2 SA SF true) t) xs vs → b7 (bm h' (S2 SA SF true) t) xs vs := fun hc => hc.mono fun _ _ hr => bm.mono (fun _ h => h) (fun n hn => hh n (S2.sub true hn)) hr
 obtain ⟨j, rfl, hj⟩ := hE hl
 refine ⟨fun k' g' C' q => by rw [xT]; exact M.E3 k' g' C' q, M.one, fun i xs hi => ?_, fun i i' xs xs' g1 C1 C2 q1 q2 q3 q4 => ?_, M.sl⟩
 ·rcases vK hi with ⟨h4, h5⟩ | ⟨h4, h5⟩
  ·cases h4
   cases h5
   exact .inr ⟨g, C, cur, hS, hg, h1, h2, h3, hm hch⟩
  ·rcases M.HQ i xs h5 with h6 | ⟨g', C', cur', q1, q2, q3, q4, q5, q6⟩
   ·exact .inl h6
   ·refine .inr ⟨g', C', cur', q1, ?_, q3, q4, q5, hm q6⟩
    rw [ho g' fun hgg => h4 (by rw [M.inj i j xs _ g' C' C h5 hj q1 (hgg ▸ hS)]), q2]
 ·have key : ∀ n ys, (eY bs (some zs) (j + 1))[n]? = some (some ys) → ∃ ys', bs[n]? = some (some ys') := fun n ys hn => by
   rcases vK hn with ⟨h4, _⟩ | ⟨_, h5⟩
   ·cases h4; exact ⟨_, hj⟩
   ·exact ⟨_, h5⟩
  obtain ⟨y1, p1⟩ := key _ _ q1
  obtain ⟨y2, p2⟩ := key _ _ q2
  exact M.inj _ _ _ _ _ _ _ p1 p2 q3 q4
theorem DD (HT : mL P T) (H : aC c β SF e a w) {t : TypeId} {x y : Operand} {ef : pq} (h : yr T ve t x y = some ef) (hok : ef.ok = true) :
  ff P ⟨none, .store t x y, ty, pos, af, gd⟩ a w (Rel c (e.aF ef.ws)) := by
 have hrun : ∀ {p v : Value} {w' : World}, a.eval x = p → a.eval y = v → (Instr.storeAt t p v).run P w = .ok () w' → (execOp a.eval ⟨none, .store t x y, ty, pos, af, gd⟩).run P w = .ok .skip w' := by
  rintro p v w' rfl rfl hr
  simp only [execOp, Sem.run_bind, hr, Result.andThen_ok, Sem.run_pure]
 unfold yr at h
 split at h
 ·rename_i i o off cs' hi hx hy
  obtain ⟨s, hs, hcs'⟩ := Option.bind_eq_some_iff.1 hy
  have hv := n7 (cY H hs) hcs'
  obtain ⟨g, hg, hx⟩ := aW H hx
  split at h
  ·rename_i cs st ho
   have ho := bE (e := e) ho
   obtain ⟨g', arr, et, hg', harr, hcs⟩ := H.aY _ _ ho
   rw [hg] at hg'
   cases hg'
   split at h
   ·rename_i hc
    cases h
    simp only [Bool.and_eq_true, Nat.beq_eq, Nat.ble_eq, Bool.not_eq_true'] at hc
    obtain ⟨hc1, hc2, hc3⟩ := hc
    have hst : (OV.box cs st).st ≠ 1 := by
     intro h
     simp only [OV.st] at h
     subst h
     simp at hc3
    have hl := hv.len
    have hl2 := hcs.len
    simp only [Array.length_toList] at hl hl2
    have hr := qh HT hi harr (v := a.eval y) (off := off) (by omega) (by omega) (rz hv)
    have hnew := lk (k := off) (by omega) hv hcs
    refine .inr ⟨_, hrun hx rfl hr, β, SF, H.rewrite ho (ov' := .box (eK cs' off cs) st) rfl hst rfl rfl rfl (by simp) (fun k hk hne => setRow_other w g k _ (fun h => hne (show bo (β o) = some k by rw [hg, h]; rfl))) ?_⟩
    refine ⟨g, _, et, hg, setRow_heap w g arr _ et (0, 0) harr, ?_⟩
    have hap := H.apart ho hst (g := g) (show bo (β o) = some g by rw [hg]; rfl)
    exact hnew.mono (fun _ h => h) (fun k hk => setRow_other w g k _ (hap k hk)) (fun _ _ => rfl)
   ·cases h
  ·cases h
 ·rename_i i o t' j off cs' hi hx hy
  obtain ⟨s, hs, hcs'⟩ := Option.bind_eq_some_iff.1 hy
  have hv := n7 (cY H hs) hcs'
  obtain ⟨g, b0, N, cc, hg, hj, hx⟩ := aW H hx
  split at h
  ·rename_i t'' et xs f st cs'' ws ho hst
   have ho := bE (e := e) ho
   split at h
   ·rename_i hc
    simp only [Bool.and_eq_true, Nat.beq_eq, Nat.ble_eq, Bool.not_eq_true'] at hc
    obtain ⟨hc1, hc2, hc3, hc4, hc5⟩ := hc
    have hc1 := Ty.eq_of_beq hc1
    subst hc1
    split at h
    ·rename_i z hz
     cases h
     have hst1 : (OV.row t'' et xs f st).st ≠ 1 := by
      intro h
      simp only [OV.st] at h
      subst h
      simp at hc4
     obtain ⟨SF', k1, k2, k3, k4, k5⟩ := nz (Fm.refl e) H hst
     have hv' := k4 _ hv
     have ho' : (e.aF ws).obj o = some (.row t'' et xs f st) := by
      rw [k5 o, ho]
      intro hm
      have : (cs'.flatMap aq).any (Nat.beq o) = true := List.any_eq_true.2 ⟨o, hm, by simp⟩
      rw [this] at hc5
      cases hc5
     obtain ⟨vs, how, hch⟩ := k3.aY _ _ ho'
     rw [hg] at how
     obtain ⟨hn, cur, hcur, hle, htake, hNc, hcm, hcs⟩ := Dq how
     have hl := hv.len
     simp only [Array.length_toList] at hl
     have hjl : j < xs.length := by omega
     have hb2 : (j + 1) * t''.size ≤ xs.length * t''.size := Nat.mul_le_mul_right _ hjl
     rw [Nat.succ_mul] at hb2
     have hr := qh HT hi hcur (v := a.eval y) (off := b0 + (j * t''.size + off)) (by omega) (by omega) (rz hv)
     have hold := hch.at_ j hjl
     have holdlen := hold.len
     have hrep := lk (k := off) (by rw [← hv'.len, jW]; simp; omega) hv' (jV (β := β) hold)
     have hzr := tr (f := f && iA cs'') hrep hz (fun hf => by
      simp only [Bool.and_eq_true] at hf
      rw [mV _ _ _ (by rw [← hv'.len, jW]; simp; omega)]
      have q1 := xS t'' (xs.getD j t''.vy) f hf.1
      simp only [iA, List.all_append, Bool.and_eq_true]
      refine ⟨⟨?_, hf.2⟩, ?_⟩
      ·have := vH 0 off q1
       rwa [List.drop_zero] at this
      ·have := vH (off + cs''.length) (tR t'' (xs.getD j t''.vy) f).length q1
       rwa [List.take_of_length_le (by simp)] at this)
     have hap := k3.apart ho' hst1 (g := g) (show bo (β o) = some g by rw [hg]; rfl)
     have hset := b7.set hzr j (hch.mono fun _ _ hr => bm.mono (S2.xq f (f && iA cs'') fun h => by rw [h]; rfl) (fun _ _ => rfl) hr) hjl
     rw [← htake] at hset
     have hlt : (a.eval y).cells.toList.length = (a.eval y).cells.size := Array.length_toList ..
     have hcl : cur.toList.length = cur.size := Array.length_toList ..
     rw [← GB (cur.toList.drop b0) (a.eval y).cells.toList xs.length j t''.size off (by rw [List.length_drop]; omega) hjl (by omega), ← qg _ _ _ _ _ (by omega)] at hset
     rw [Env.cA]
     refine .inr ⟨_, hrun hx rfl hr, β, SF', k3.rewrite ho' (ov' := .row t'' et (xs.set j z) (f && iA cs'') st) rfl hst1 rfl rfl rfl (by simp) (fun k hk hne => setRow_other w g k _ (fun h => hne (show bo (β o) = some k by rw [hg, h]; rfl))) ?_⟩
     refine ⟨_, ?_, hset.mono fun _ _ hr => bm.mono (fun _ h => h) (fun k hk => setRow_other w g k _ (hap k (S2.sub _ hk))) hr⟩
     rw [hg, List.length_set]
     subst hn
     refine ⟨by rw [hset.len, List.length_set], .inr ⟨g, b0, cc, _, rfl, Nat.zero_le _, setRow_heap w g cur _ et (0, 0) hcur, hNc, hcm, ?_, rfl⟩⟩
     simp only [List.size_toArray, List.length_append, List.length_take, List.length_drop, Array.length_toList]
     omega
    ·cases h
   ·cases h
  ·cases h
 ·rename_i i et t' k j off cs' hi hx0 hy
  obtain ⟨s, hs, hcs'⟩ := Option.bind_eq_some_iff.1 hy
  have hv := n7 (cY H hs) hcs'
  obtain ⟨g, C, hS, hx⟩ := aW H hx0
  split at h
  ·rename_i bs hbs
   split at h
   ·rename_i hc
    simp only [Bool.and_eq_true, Nat.beq_eq, Nat.ble_eq] at hc
    obtain ⟨hc1, hc2⟩ := hc
    split at h
    ·rename_i z hz
     cases h
     obtain ⟨ho, M⟩ := n8 H hbs
     obtain ⟨hl, hj⟩ := JB hok
     obtain ⟨cur, hcur, h1, h2, h3, hch⟩ := M.hit hS hl
     have hlv := hv.len
     simp only [Array.length_toList] at hlv
     have hb1 : (j + 1) * t'.size ≤ (ak bs k).length * t'.size := Nat.mul_le_mul_right _ hj
     have hb2 : (ak bs k).length * t'.size ≤ C.2 * t'.size := Nat.mul_le_mul_right _ h1
     rw [Nat.succ_mul] at hb1
     have hr := qh HT hi hcur (v := a.eval y) (off := C.1 + (j * t'.size + off)) (by omega) (by omega) (rz hv)
     have hold := hch.at_ j hj
     have hrep := lk (k := off) (by rw [jW]; omega) hv (jV (β := β) hold)
     have hzr := bm.lT (h' := w.heap) (S' := S2 c.SA SF true) (S2.yJ _) M.sl (tr (f := false) hrep hz (fun h => by cases h))
     have hcl : cur.toList.length = cur.size := Array.length_toList ..
     have hset := b7.set hzr j hch hj
     rw [← GB (cur.toList.drop C.1) (a.eval y).cells.toList (ak bs k).length j t'.size off (by rw [List.length_drop]; omega) hj (by rw [Array.length_toList]; omega), ← qg _ _ _ _ _ (by omega)] at hset
     obtain ⟨j0, hk0, hj0⟩ := hE hl
     have how : bI SF β (an et) (.mem t' et bs) g := ⟨j0, _, C, hj0, hk0 ▸ hS⟩
     have hlo := H.loose ho (by simp [OV.st]) how
     refine .inr ⟨_, hrun hx rfl hr, β, SF, H.rewrite ho (ov' := .mem t' et (eY bs (some ((ak bs k).set j z)) k)) rfl (by simp [OV.st]) rfl rfl rfl (by simp) (fun n hn hne => setRow_other w g n _ (fun h => hne (h ▸ how))) ?_ (fun g' hg' => ?_)⟩
     ·refine ⟨rfl, M.write hS hl (fun n hn => setRow_other w g n _ fun h => ?_) (fun n hn => setRow_other w g n _ hn) (setRow_heap w g cur _ et (0, 0) hcur) (by rw [List.length_set]; exact h1) h2 ?_ ?_⟩
      ·subst h
       exact hn.elim hlo.1 hlo.2.1
      ·simp only [List.size_toArray, List.length_append, List.length_take, List.length_drop, Array.length_toList]
       omega
      ·rw [List.length_set]
       exact hset
     ·obtain ⟨i1, ys, C1, q1, q2⟩ := hg'
      rcases vK q1 with ⟨q3, _⟩ | ⟨_, q3⟩
      ·exact ⟨j0, _, C1, hj0, by rw [← hk0, q3]; exact q2⟩
      ·exact ⟨i1, ys, C1, q3, q2⟩
    ·cases h
   ·cases h
  ·cases h
 ·cases h
theorem lM {h : Array Obj} {S : Loc → Prop} {k : IntKind} : ∀ {l : List Int} {vs : List Value}, b7 (bm h S (.int k)) l vs ↔ vs = l.map (Value.int k)
 | [], vs => Iff.rfl
 | x :: l, vs => by
  constructor
  ·rintro ⟨c, r, rfl, hc, hr⟩
   rw [lM.1 hr, show c = [Value.int k x] from hc]; rfl
  ·rintro rfl
   exact ⟨[.int k x], l.map (Value.int k), rfl, rfl, lM.2 rfl⟩
theorem yS (xs ys : List Int) : copied xs ys = ys.take (Nat.min ys.length xs.length) ++ xs.drop (Nat.min ys.length xs.length) := by
 unfold copied
 rcases Nat.le_total ys.length xs.length with h | h
 ·rw [show Nat.min ys.length xs.length = ys.length from Nat.min_eq_left h, List.take_of_length_le h, List.take_length]
 ·rw [show Nat.min ys.length xs.length = xs.length from Nat.min_eq_right h, List.drop_of_length_le h, List.drop_length]
theorem yT (xs ys : List Int) : (copied xs ys).length = xs.length := by
 unfold copied
 rw [List.length_append, List.length_take, List.length_drop]
 omega
theorem Fp (HT : mL P T) (H : aC c β SF e a w) (hN : c.ok d) {t : TypeId} {s x : Operand} {ef : pq} {C : Call} {argTypes : Array TypeId} (hC : C = { callee := .builtin .copy, args := #[s, x], argTypes })
  (hty : argTypes.toList = [t, t]) (h : By T ve d t s x = some ef) (hok : ef.ok = true) :
  ff P ⟨some d, .call C, ty, pos, af, gd⟩ a w (Rel c (e.aF ef.ws)) := by
 have hA : argTypes = #[t, t] := by cases argTypes; simp at hty; rw [hty]
 subst hA
 have hrun : ∀ {v' : Value} {w' : World}, (∀ ty, (Builtin.copy_ #[t, t] ty #[a.eval s, a.eval x]).run P w = .ok v' w') → (execOp a.eval ⟨some d, .call C, ty, pos, af, gd⟩).run P w = .ok (.value v') w' := fun hr =>
  jo ty pos af gd hC fun ty cs => by simp [builtin, hr ty]
 unfold By at h
 split at h
 ·rename_i i hi
  obtain ⟨dd, hu, hdd⟩ := (HT _ _ hi).desc
  split at h
  ·rename_i el hd
   rw [hd] at hdd
   cases dd <;> simp only [dq] at hdd <;> try (exact hdd.elim)
   subst hdd
   split at h
   ·rename_i ei o b hei hs hx
    split at h
    ·rename_i k e' xs f st ho
     split at h
     ·rename_i hc
      simp only [Bool.and_eq_true, Nat.beq_eq, Bool.not_eq_true'] at hc
      obtain ⟨hc1, hc2, hc3⟩ := hc
      split at h
      ·rename_i ys f' hn
       cases h
       change List Int at xs ys
       have ho := bE (e := e) ho
       have hst1 : (OV.row (.int k) e' xs f st).st ≠ 1 := by
        intro h
        simp only [OV.st] at h
        subst h
        simp at hc3
       obtain ⟨hse, A, N, cp, hsl⟩ := aW H hs
       have hys := Dz H (aW H hx) hn hok
       obtain ⟨vs, hown, hch⟩ := H.aY _ _ ho
       have hvs := lM.1 hch
       subst hvs
       obtain ⟨j, hj, hjs, _⟩ := (HT _ _ hei).info
       have hsz : (P.info? el).map (·.size) = some 1 := by rw [hj, Option.map_some, hjs, hc1]
       obtain ⟨A', N', cp', hxe, hlen, hrow⟩ := hys
       change List.length (α := Int) ys = N' at hlen
       subst hlen
       have hbo : β o = .slice A N cp := hse.symm.trans hsl
       have fin : ∀ (w' : World) (m : Nat), m = Nat.min (List.length (α := Int) ys) (List.length (α := Int) xs) → (∀ ty, (Builtin.copy_ #[t, t] ty #[a.eval s, a.eval x]).run P w = .ok (goInt m) w') → w'.os = w.os → w'.tape = w.tape → w'.output = w.output → w.heap.size ≤ w'.heap.size →
         (∀ k, k < w.heap.size → bo (β o) ≠ some k → w'.heap[k]? = w.heap[k]?) → w'.fc 0 e' 1 (β o) (copied xs ys).length ((copied xs ys).map (Value.int k)) →
         ff P ⟨some d, .call C, ty, pos, af, gd⟩ a w (Rel c (e.aF [.obj o (some (.row (.int k) e' (copied xs ys) f st)), bz d (.val (.int .i64) (show Int from min (List.length (α := Int) xs : Nat) (List.length (α := Int) ys : Nat)) true)])) := by
        intro w' m hm hr h1 h2 h3 h4 h5 h6
        refine .inl ⟨goInt m, w', hrun hr, β, SF, (H.rewrite ho (ov' := .row (.int k) e' (copied xs ys) f st) rfl hst1 h1 h2 h3 h4 h5 ⟨_, h6, lM.2 rfl⟩).slot d hN _ _ fun y hy => ?_⟩
        cases hy
        show [goInt m] = [Value.int .i64 _]
        subst hm
        show [Value.int .i64 ((Nat.min _ _ : Nat) : Int)] = _
        congr 2
        show ((Nat.min (List.length (α := Int) ys) (List.length (α := Int) xs) : Nat) : Int) = min ((List.length (α := Int) xs : Nat) : Int) ((List.length (α := Int) ys : Nat) : Int)
        rw [show Nat.min (List.length (α := Int) ys) (List.length (α := Int) xs) = min (List.length (α := Int) ys) (List.length (α := Int) xs) from rfl]
        omega
       by_cases h0 : Nat.min (List.length (α := Int) ys) (List.length (α := Int) xs) = 0
       ·refine fin w 0 h0.symm (fun ty => ?_) rfl rfl rfl (Nat.le_refl _) (fun _ _ _ => rfl) ?_
        ·rw [hsl, hxe]
         have hN : N = List.length (α := Int) xs := by
          rw [hbo] at hown
          rcases hown with ⟨_, ⟨g2, g3⟩ | ⟨g, b0, cap, cur, g2, _⟩⟩
          ·cases g2; exact g3.symm
          ·cases g2; rfl
         exact run_copy_none w t t ty el A A' N cp _ cp' hu hsz (by rw [hN]; exact h0)
        ·have : copied xs ys = xs := by
          rw [yS, h0]; rfl
         rw [this]; exact hown
       ·have hm1 : 0 < List.length (α := Int) ys := by
         rcases Nat.eq_zero_or_pos (List.length (α := Int) ys) with h | h
         ·rw [h] at h0; exact absurd (Nat.zero_min _) h0
         ·exact h
        have hm2 : 0 < List.length (α := Int) xs := by
         rcases Nat.eq_zero_or_pos (List.length (α := Int) xs) with h | h
         ·rw [h] at h0; exact absurd (Nat.min_zero _) h0
         ·exact h
        rcases hrow with hz | ⟨ad, us, rfl, hus, hcells⟩
        ·omega
        ·have hus := lM.1 hus
         subst hus
         have hown' := hown
         rw [hbo] at hown'
         rcases hown' with ⟨g1, ⟨g2, g3⟩ | ⟨g, b0, cap, cur, g2, _, g4, g5, g6, g7, g8⟩⟩
         ·have g3' : List.length (α := Int) xs = 0 := g3
          omega
         ·cases g2
          have hmle : Nat.min (List.length (α := Int) ys) (List.length (α := Int) xs) ≤ List.length (α := Int) xs := Nat.min_le_right _ _
          have hmly : Nat.min (List.length (α := Int) ys) (List.length (α := Int) xs) ≤ List.length (α := Int) ys := Nat.min_le_left _ _
          have g5' : List.length (α := Int) xs ≤ cp := g5
          have g7' : b0 + cp ≤ cur.size := by have := g7; rw [show (Ty.int k).size = 1 from rfl, Nat.mul_one] at this; exact this
          have hlcs : ((ys.take (Nat.min (List.length (α := Int) ys) (List.length (α := Int) xs))).map (Value.int k)).length = Nat.min (List.length (α := Int) ys) (List.length (α := Int) xs) := by
           rw [List.length_map, List.length_take, Nat.min_eq_left hmly]
          have hr := fun ty => run_copy_row (P := P) w t t ty el g b0 (List.length (α := Int) xs) cp ad (List.length (α := Int) ys) cp' cur e' ((ys.take (Nat.min (List.length (α := Int) ys) (List.length (α := Int) xs))).map (Value.int k)) hu hsz g4 hlcs
           (fun j v hv => hcells j v (by
            rw [List.map_take, List.getElem?_take] at hv
            split at hv
            ·exact hv
            ·cases hv)) (by rw [hlcs]; omega) (fun v hv => by
            obtain ⟨z, _, rfl⟩ := List.mem_map.1 hv
            rfl)
          rw [hlcs] at hr
          refine fin (w.setRow g (cur.toList.take b0 ++ (ys.take (Nat.min (List.length (α := Int) ys) (List.length (α := Int) xs))).map (Value.int k) ++ cur.toList.drop (b0 + Nat.min (List.length (α := Int) ys) (List.length (α := Int) xs))).toArray) _ rfl (fun ty => by rw [hsl, hxe]; exact hr ty) rfl rfl rfl (by simp) (fun k' hk hne => setRow_other w g k' _ (fun h => hne (by rw [hbo, h]; rfl))) ?_
          rw [hbo, yT]
          refine ⟨by rw [List.length_map, yT, Nat.mul_one], .inr ⟨g, b0, _, _, rfl, by omega, setRow_heap w g cur _ e' (0, 0) g4, g5, g6, ?_, ?_⟩⟩
          ·simp only [Nat.mul_one]
           simp only [List.size_toArray, List.length_append, List.length_take, List.length_drop, List.length_map, Array.length_toList]
           omega
          ·have hsp := qg cur.toList ((ys.take (Nat.min (List.length (α := Int) ys) (List.length (α := Int) xs))).map (Value.int k)) b0 0 (Nat.min (List.length (α := Int) ys) (List.length (α := Int) xs)) (by rw [Array.length_toList]; omega)
           rw [Nat.add_zero, Nat.zero_add, List.take_zero, List.nil_append] at hsp
           simp only [Ty.size, Nat.mul_one] at g8 ⊢
           rw [hsp, yS, List.map_append, List.take_append, hlcs, List.take_of_length_le (by rw [hlcs]; exact hmle)]
           congr 1
           rw [List.map_drop, ← g8, List.drop_take]
           rfl
      ·cases h
     ·cases h
    ·cases h
   ·cases h
  ·cases h
 ·cases h
theorem Ak (HT : mL P T) (H : aC c β SF e a w) {u : Env} (hN : c.ok d) {b : Builtin} (Hn : b = .append → tx c SF a w u) (hF : b = .append → lX e d) {args : Array Operand} {argTypes : Array TypeId} {ef : pq}
  (h : tm T u ve d b args.toList argTypes.toList = some ef) (hok : ef.ok = true) :
  ff P ⟨some d, .call { callee := .builtin b, args, argTypes }, ty, pos, af, gd⟩ a w (Rel c (e.aF ef.ws)) := by
 unfold tm at h
 split at h
 ·rename_i x t rest hx hty
  have hx : args = #[x] := by cases args; simp at hx; rw [hx]
  subst hx
  split at h
  ·rename_i i cl hi hcl
   split at h
   ·rename_i s f n hd hn
    cases h
    exact lL ty pos af gd HT H hN rfl hty hi hcl hn (.inl ⟨hd, _, _, rfl⟩)
   ·rename_i el et t' xh f n hd hn
    cases h
    exact lL ty pos af gd HT H hN rfl hty hi hcl hn (.inr ⟨⟨_, hd⟩, fun _ _ h => by cases h⟩)
   ·rename_i el t' xs f n hd hn
    cases h
    exact lL ty pos af gd HT H hN rfl hty hi hcl hn (.inr ⟨⟨_, hd⟩, fun _ _ h => by cases h⟩)
   ·rename_i el n hd hn
    cases h
    exact lL ty pos af gd HT H hN rfl hty hi hcl hn (.inr ⟨⟨_, hd⟩, fun _ _ h => by cases h⟩)
   ·rename_i el o n hd hn
    cases h
    exact lL ty pos af gd HT H hN rfl hty hi hcl hn (.inr ⟨⟨_, hd⟩, fun _ _ h => by cases h⟩)
   ·rename_i el o t' lo m n hd hn
    cases h
    exact lL ty pos af gd HT H hN rfl hty hi hcl hn (.inr ⟨⟨_, hd⟩, fun _ _ h => by cases h⟩)
   ·cases h
  ·cases h
 ·rename_i s x t t' hx hty
  have hx : args = #[s, x] := by cases args; simp at hx; rw [hx]
  subst hx
  split at h
  ·rename_i ht
   have ht : t = t' := by simpa using ht
   subst ht
   exact BQ ty pos af gd HT H (Hn rfl) hN (hF rfl) rfl hty h hok
  ·cases h
 ·rename_i s x t t' hx hty
  have hx : args = #[s, x] := by cases args; simp at hx; rw [hx]
  subst hx
  split at h
  ·rename_i ht
   have ht : t = t' := by simpa using ht
   subst ht
   exact Fp ty pos af gd HT H hN rfl hty h hok
  ·cases h
 ·rename_i x y z hx
  have hx : args = #[x, y, z] := by cases args; simp at hx; rw [hx]
  subst hx
  split at h
  ·rename_i k m k' n k'' l h1 h2 h3
   split at h
   ·rename_i hk
    simp only [Bool.and_eq_true] at hk
    have hk1 := Ty.dH hk.1
    have hk2 := Ty.dH hk.2
    subst hk1; subst hk2
    cases h
    exact Fi ty pos af gd H hN rfl h1 h2 h3
   ·cases h
  ·cases h
 ·rename_i x y z hx
  have hx : args = #[x, y, z] := by cases args; simp at hx; rw [hx]
  subst hx
  split at h
  ·rename_i k m k' n k'' l h1 h2 h3
   split at h
   ·rename_i hk
    simp only [Bool.and_eq_true] at hk
    have hk1 := Ty.dH hk.1
    have hk2 := Ty.dH hk.2
    subst hk1; subst hk2
    cases h
    exact Fj ty pos af gd H hN rfl h1 h2 h3
   ·cases h
  ·cases h
 ·rename_i x y hx
  have hx : args = #[x, y] := by cases args; simp at hx; rw [hx]
  subst hx
  split at h
  ·rename_i k m k' n h1 h2
   split at h
   ·rename_i hk
    have hk := Ty.dH hk
    subst hk
    cases h
    exact HS ty pos af gd H hN rfl h1 h2
   ·cases h
  ·cases h
 ·rename_i x y hx
  have hx : args = #[x, y] := by cases args; simp at hx; rw [hx]
  subst hx
  split at h
  ·rename_i k m k' n h1 h2
   split at h
   ·rename_i hk
    have hk := Ty.dH hk
    subst hk
    cases h
    exact HU ty pos af gd H hN rfl h1 h2
   ·cases h
  ·cases h
 ·cases h
theorem HX (HT : mL P T) (H : aC c β SF e a w) (hN : c.ok d) {x : Operand} {s t : TypeId} {b : ByteArray} (h : strOf T ve s t x = some b) :
  ff P ⟨some d, .convert s t x, ty, pos, af, gd⟩ a w (Rel c (e.aF [bz d (.val .str b true)])) := by
 unfold strOf at h
 split at h
 ·rename_i si ti cl h1 h2 h3
  split at h
  ·rename_i el hsi hti
   split at h
   ·rename_i ei hei
    split at h
    ·rename_i hk
     obtain ⟨sd, hs, hsd⟩ := (HT _ _ h1).desc
     rw [hsi] at hsd
     cases sd <;> simp only [dq] at hsd
     subst hsd
     obtain ⟨td, ht, htd⟩ := (HT _ _ h2).desc
     rw [hti] at htd
     cases td <;> simp only [dq] at htd
     obtain ⟨ed, he, hed⟩ := (HT _ _ hei).desc
     rw [hk] at hed
     cases ed <;> simp only [dq] at hed
     subst hed
     have key : ∀ (v : Value), a.eval x = v → (Conv.bytesToString v).run P w = .ok (.string b) w → (∃ A N C, v = .slice A N C) → ff P ⟨some d, .convert s t x, ty, pos, af, gd⟩ a w (Rel c (e.aF [bz d (.val .str b true)])) := by
      intro v hv hrun ⟨A, N, C, hA⟩
      refine .pure (x := .cell (.val .str b true)) (v := .string b) H rfl hN ?_ rfl
      subst hA
      simp only [execOp, hv, Sem.run_bind, run_convert_bytes_string w s t _ A N C hs he ht, hrun, Result.andThen_ok]
      rfl
     split at h
     ·cases h
      have hv := aW H h3
      exact key _ hv (by rfl) ⟨_, _, _, rfl⟩
     ·split at h
      ·rename_i t' xs f hct
       obtain ⟨ys, hz, rfl⟩ := Option.map_eq_some_iff.1 h
       obtain ⟨rfl, hy⟩ := fX hz
       cases hy
       obtain ⟨A, N, C, hv, hl, hrow⟩ := wG H (aW H h3) hct
       refine key _ hv ?_ ⟨A, N, C, rfl⟩
       rcases hrow with h0 | ⟨ad, vs, rfl, hch, hcell⟩
       ·subst h0
        have hx : ys = [] := List.length_eq_zero_iff.1 hl
        subst hx
        cases A with
        | none => rfl
        | some ad => exact run_bytesToString w ad 0 C [] (run_loadCells_list w ad [] (fun j v h => by simp at h))
       ·have hvs := lM.1 hch
        subst hvs
        refine run_bytesToString w ad N C ys ?_
        have := run_loadCells_list (P := P) w ad (List.map (Value.int .u8) ys) hcell
        rw [List.length_map] at this
        rw [← hl]
        exact this
      ·cases h
    ·cases h
   ·cases h
  ·cases h
 ·cases h
theorem JF (HT : mL P T) (H : aC c β SF e a w) {u : Env} {o : Oper} (Hn : isApp o = true → tx c SF a w u) (hd : ∀ d, o.dst = some d → c.ok d ∧ (tV o = true → lX e d)) {ef : pq} (h : oper T u o ve = some ef) (hok : ef.ok = true) :
  ff P o a w (Rel c (e.aF ef.ws)) := by
 obtain ⟨dst, op, ty, pos, af, gd⟩ := o
 unfold oper at h
 split at h
 ·rename_i hds
  simp only at hds
  subst hds
  split at h
  ·rename_i t x y ho
   simp only at ho
   subst ho
   exact DD ty pos af gd HT H h hok
  ·rename_i t m x y ho
   simp only at ho
   subst ho
   exact ui HT H h _ ⟨rfl, .inl rfl⟩
  ·rename_i t m x y ho
   simp only at ho
   subst ho
   exact ui HT H h _ ⟨rfl, .inr rfl⟩
  ·cases h
 ·rename_i d hds
  simp only at hds
  subst hds
  obtain ⟨hN, hF⟩ := hd d rfl
  split at h
  all_goals first | (cases h; done) | (rename_i ho; simp only at ho; subst ho)
  ·split at h
   ·rename_i r hr; cases h; exact Fe ty pos af gd H hN hr
   ·cases h
  ·split at h
   ·rename_i r hr; cases h; exact BM ty pos af gd H hN hr
   ·cases h
  ·exact Ff ty pos af gd H hN h
  ·split at h
   ·rename_i i hi; cases h; exact Dy ty pos af gd HT H hN (hF rfl) hi
   ·cases h
  ·split at h
   ·rename_i i cs hi hcs
    split at h
    ·cases h; exact HV ty pos af gd H hN (hF rfl) hcs
    ·cases h
   ·cases h
  ·exact Dv ty pos af gd HT H hN h
  ·exact vI ty pos af gd HT H hN (hF rfl) h
  ·exact Fh ty pos af gd HT H hN h hok
  ·split at h
   ·rename_i o off hx; cases h; exact iH ty pos af gd H hN hx (.inl ⟨_, _, rfl⟩)
   ·rename_i o t i off hx; cases h; exact iH ty pos af gd H hN hx (.inr (.inl ⟨_, _, _, _, rfl⟩))
   ·rename_i t x f hx; cases h; exact iH ty pos af gd H hN hx (.inr (.inr (.inl ⟨_, _, _, rfl⟩)))
   ·rename_i et t k i off hx; cases h; exact iH ty pos af gd H hN hx (.inr (.inr (.inr ⟨_, _, _, _, _, rfl⟩)))
   ·cases h
  ·exact HP ty pos af gd HT H hN h hok
  ·split at h
   ·rename_i b f hx; cases h; exact HN ty pos af gd H hN hx
   ·rename_i k n f hx; cases h; exact HO ty pos af gd H hN hx
   ·cases h
  ·split at h
   ·rename_i ef' hcv; cases h; exact Fg ty pos af gd HT H hN hcv
   ·obtain ⟨b, hb, rfl⟩ := Option.map_eq_some_iff.1 h; exact HX ty pos af gd HT H hN hb
  ·split at h
   ·rename_i l h1 h2; cases h; exact yO ty pos af gd H hN h1 h2
   ·cases h
  ·exact Fl ty pos af gd HT H hN (hF rfl) h hok
  ·exact Aj ty pos af gd H hN (hF rfl) h
  ·exact BR ty pos af gd HT H hN h hok
  ·exact Ds ty pos af gd HT H hN h hok hF
  ·exact xu ty pos af gd HT H hN h
  ·split at h
   ·rename_i i cs hi hx
    split at h
    ·rename_i fs hd
     split at h
     ·rename_i fo ft hf
      split at h
      ·rename_i fi hfi
       split at h
       ·rename_i r hr
        split at h
        ·rename_i hle
         cases h
         exact Dt ty pos af gd HT H hN hi hx hd hf hfi hr (Nat.le_of_ble_eq_true hle)
        ·cases h
       ·cases h
      ·cases h
     ·cases h
    ·cases h
   ·cases h
  ·exact xv ty pos af gd HT H hN h hok
  ·split at h
   ·rename_i i s f k n hi hx hy
    split at h
    ·rename_i hd
     cases h
     exact yN ty pos af gd HT H hN hi hd hx hy hok
    ·cases h
   ·cases h
  ·split at h
   ·rename_i l hx
    split at h
    ·rename_i b cs hj
     split at h
     ·rename_i r hr
      cases h
      exact Ai ty pos af gd H hN hx hj hr
     ·cases h
    ·cases h
   ·cases h
  ·exact Ak ty pos af gd HT H hN (fun hb => Hn (by subst hb; rfl)) (fun hb => hF (by subst hb; rfl)) h hok
end
end Go.Px
