/- Own texts, part M6: PvL PvM PwE. -/
import Derived.Test.YtmmggkldldbomaaGreatDoorM5
set_option linter.unusedVariables false
namespace Go.Px.Seat
open Go Pm Pt
def pick (l : List Tn) : List ByteArray := (l.filter KI).map fun x => x.2.2.1
theorem EN (l : List Tn) : (pick l).length ≤ l.length := by
 unfold pick
 rw [List.length_map]
 exact List.length_filter_le _ _
theorem EO {l : List Tn} {s : ByteArray} : s ∈ pick l ↔ ∃ x ∈ l, KI x = true ∧ x.2.2.1 = s := by
 unfold pick
 rw [List.mem_map]
 constructor
 ·rintro ⟨x, hx, rfl⟩
  exact ⟨x, (List.mem_filter.1 hx).1, (List.mem_filter.1 hx).2, rfl⟩
 ·rintro ⟨x, hx, hu, rfl⟩
  exact ⟨x, List.mem_filter.2 ⟨hx, hu⟩, rfl⟩
theorem IH {l : List Tn} {x : Tn} : pick (l ++ [x]) = pick l ++ (if KI x = true then [x.2.2.1] else []) := by
 unfold pick
 rw [List.filter_append, List.map_append]
 cases h : KI x <;> simp [List.filter, h]
theorem L7 : Ev fun n => ∀ l : List Tn, l.length ≤ 1048576 → ∃ r, iR ((C B0).run n) l = some (r, ()) ∧ r.length ≤ 1048576 ∧ ∀ s, s ∈ r ↔ s ∈ pick l := by
 refine ((On.and Ip).and (G7 (B := B0))).succ fun n hn ⟨⟨k1, k2⟩, k3⟩ l hl => ?_
 have hp := EN l
 refine ⟨k8 (fW (pick l)), ?_, ?_, fun s => by rw [Io, Im]⟩
 ·rw [aa, zI]
  unfold qZ
  rw [aj]
  refine lP (fun i => (((i : Int), ((l.length : Int), (l, ((), ((), ()))))), (pick (l.take i), ([], ())))) _ (m := l.length) rfl ?_ ?_ (by omega)
  ·intro rec i hi
   have e : aB .i64 (i : Int) 1 = ((i + 1 : Nat) : Int) := ar (by omega) (by omega)
   have hak : ∀ x, Di (pick (l.take i) ++ [x]) 16 = true := fun x => fV (by
    have := EN (l.take i)
    rw [List.length_take] at this
    rw [List.length_append]
    simp only [List.length_cons, List.length_nil]
    omega)
   dsimp only
   rw [ab, decide_eq_true (by omega), cond_true, aj, ah (ae (by omega) (by omega)), Int.toNat_natCast, lO (d := (0, (0, ((bs []), ())))) hi, IH]
   generalize l.getD i (0, (0, ((bs []), ()))) = x at *
   have hiu : KI x = (bif x.1 == 2 then true else x.1 == 13) := by unfold KI; cases x.1 == 2 <;> rfl
   rw [hiu]
   cases h2 : x.1 == 2 with
   | true =>
    simp only [cond_true, cb, hak, ah, e, if_true]
   | false =>
    cases h13 : x.1 == 13 with
    | true => simp only [cond_true, cond_false, cb, hak, ah, e, if_true]
    | false =>
     simp only [cond_false, cb, e]
     rw [if_neg (by decide), List.append_nil]
  ·intro rec
   dsimp only
   rw [ab, decide_eq_false (by omega), cond_false, List.take_length, k1 _ _ (by omega)]
   simp only [Option.bind_some]
   rw [← wo (pick l), k2 _ _ (by rw [wo]; omega)]
   simp only [Option.bind_some]
   rw [k3]
   rfl
 ·have : (k8 (fW (pick l))).length ≤ (fW (pick l)).length := by
   unfold k8 ie
   rw [List.length_map]
   refine Nat.le_trans (zR _) ?_
   unfold bytesOf
   rw [List.length_map]
   exact Nat.le_refl _
  rw [wo] at this
  omega
abbrev eR (X : List Df) : Nat → Nat → Prop := fun i j => kB X i j = true
theorem getD_set_ne {α : Type} {l : List α} {i j : Nat} {x d : α} (h : i ≠ j) : (l.set i x).getD j d = l.getD j d := by
 rw [List.getD_eq_getElem?_getD, List.getElem?_set, if_neg h, List.getD_eq_getElem?_getD]
theorem QP {α : Type} {x : Option (α × Unit)} {P : α → Prop} (h : pY x fun r => P r.1) : ∃ r, x = some (r, ()) ∧ P r := by
 obtain ⟨⟨r, u⟩, h1, h2⟩ := h
 exact ⟨r, h1, h2⟩
theorem OJ : Ev fun n => ∀ X V L, ∀ a : Nat, Sm X V L → a < X.length → ∃ r, nF ((C B0).run n) X V L a = some (r, ()) ∧ r.length = X.length ∧ ∀ k, k < X.length → (r.getD k false = true ↔ Pt.Reach (eR X) a k) := by
 refine (L7.and (CP (B := B0))).succ fun n hn ⟨kn, kd⟩ X V L a h ha => ?_
 have hX1 := h.1.1
 rw [aa, Av]
 unfold s3
 rw [aj, ah (jB (by omega) (by omega) (by omega)), Int.toNat_natCast]
 apply QP
 have hreach : ∀ {sn : List Bool}, (∀ k, k < X.length → sn.getD k false = true → Pt.Reach (eR X) a k) → sn.length = X.length → (∀ w : Nat, (w = a ∨ sn.getD w false = true) → ∀ j, kB X w j = true → sn.getD j false = true) →
   ∀ k, k < X.length → (sn.getD k false = true ↔ Pt.Reach (eR X) a k) := fun {sn} h1 hl h2 k hk => ⟨h1 k hk, fun hr => CM (M := fun k => sn.getD k false = true) (fun j hj => h2 a (.inl rfl) j hj) (fun i hi j hj => h2 i (.inr hi) j hj) hr⟩
 refine kv (Q := fun r : List Bool × Unit => r.1.length = X.length ∧ ∀ k, k < X.length → (r.1.getD k false = true ↔ Pt.Reach (eR X) a k))
  (fun q => ∃ (qu : List Int) (sn : List Bool), q = (((), ((), ((), ((), ())))), (qu, ((X, (V, (L, ()))), (sn, ())))) ∧ sn.length = X.length ∧ (∀ z ∈ qu, ∃ w : Nat, z = w ∧ w < X.length ∧ (w = a ∨ Pt.Reach (eR X) a w)) ∧
   (∀ k, k < X.length → sn.getD k false = true → Pt.Reach (eR X) a k) ∧ (∀ w : Nat, (w = a ∨ sn.getD w false = true) → (w : Int) ∈ qu ∨ ∀ j, kB X w j = true → sn.getD j false = true) ∧ qu.length + Jk sn ≤ 1 + X.length)
  (fun q => List.length (α := Int) q.2.1 + Jk q.2.2.2.1) (by
   simp only
   have := Ky (List.replicate X.length false)
   rw [List.length_replicate] at this
   simp only [List.length_cons, List.length_nil]
   omega)
  ⟨[(a : Int)], List.replicate X.length false, rfl, List.length_replicate, fun z hz => ⟨a, by simpa using hz, ha, .inl rfl⟩, fun k hk hk2 => (by
   rw [List.getD_eq_getElem?_getD, List.getElem?_replicate, if_pos hk] at hk2
   cases hk2), fun w hw => .inl (by
    rcases hw with hw | hw
    ·simp [hw]
    ·rw [List.getD_eq_getElem?_getD, List.getElem?_replicate] at hw
     split at hw <;> cases hw), by
   have := Ky (List.replicate X.length false)
   rw [List.length_replicate] at this
   simp only [List.length_cons, List.length_nil]
   omega⟩ ?_
 rintro rec _ ⟨qu, sn, rfl, hsl, hq, hs, hc, hm⟩ ih
 dsimp only
 rw [aj, ab]
 cases qu with
 | nil =>
  rw [decide_eq_false (by simp), cond_false]
  exact eo ⟨hsl, hreach hs hsl fun w hw => (hc w hw).resolve_left (by simp)⟩
 | cons z qu =>
  obtain ⟨v, rfl, hv, hva⟩ := hq z (List.mem_cons_self ..)
  have hcl : (List.length ((v : Int) :: qu) : Int) = (qu.length : Int) + 1 := by simp
  have hpart : part ((v : Int) :: qu) (Int.toNat 1) (Int.toNat (List.length ((v : Int) :: qu) : Int) - Int.toNat 1) = qu := by
   show List.drop 1 (List.take (1 + ((qu.length + 1) - 1)) ((v : Int) :: qu)) = qu
   rw [List.take_of_length_le (by simp; omega)]
   rfl
  rw [decide_eq_true (by rw [hcl]; omega), cond_true, ah (ae (by omega) (by rw [hcl]; omega)), hpart]
  show pY (ok (bQ (v : Int) (len X)) <| ok (ba 1 _ _) <| _) _
  rw [ah (ae (by omega) (by rw [aj]; omega)), ah (di (by omega) (by rw [hcl]; omega) (by omega))]
  have hd := h.1.2 _ (aZ (d := cg) hv)
  obtain ⟨nm, e1, e2, e3⟩ := kn _ hd.2.2.1
  show pY ((iR ((C B0).run n) (X.getD (Int.toNat (v : Int)) cg).2.2.1.1).bind _) _
  rw [Int.toNat_natCast, e1]
  simp only [Option.bind_some]
  rw [aj]
  have hM : qu.length + 1 + Jk sn ≤ 1 + X.length := by simpa using hm
  refine kv (fun q => ∃ (t : Nat) (qu' : List Int) (sn' : List Bool), q = (((t : Int), ((nm.length : Int), ((), ((), ((), ((), ((), ()))))))), (nm, ((X, (V, (L, ()))), (sn', (qu', ()))))) ∧ t ≤ nm.length ∧ sn'.length = X.length ∧
    (∀ z ∈ qu', ∃ w : Nat, z = w ∧ w < X.length ∧ (w = a ∨ Pt.Reach (eR X) a w)) ∧
    (∀ k, k < X.length → sn'.getD k false = true → Pt.Reach (eR X) a k) ∧ (∀ w : Nat, (w = a ∨ sn'.getD w false = true) → (w : Int) ∈ qu' ∨ w = v ∨ ∀ j, kB X w j = true → sn'.getD j false = true) ∧
    (∀ s ∈ nm.take t, ∀ j : Nat, xI X s = j → sn'.getD j false = true) ∧ qu'.length + Jk sn' ≤ qu.length + Jk sn)
   (fun q => 1048577 - q.1.1.toNat) (by simp only; omega)
   ⟨0, qu, sn, rfl, Nat.zero_le _, hsl, fun z hz => hq z (List.mem_cons_of_mem _ hz), hs, fun w hw => by
    rcases hc w hw with h | h
    ·rcases List.mem_cons.1 h with h | h
     ·exact .inr (.inl (by omega))
     ·exact .inl h
    ·exact .inr (.inr h), fun s hs => by simp at hs, Nat.le_refl _⟩ ?_
  rintro rec2 _ ⟨t, qu', sn', rfl, ht, hsl', hq', hs', hc', hn', hm'⟩ ih2
  dsimp only
  rw [ab]
  by_cases h1 : t < nm.length
  ·have e : aB .i64 (t : Int) 1 = ((t + 1 : Nat) : Int) := ar (by omega) (by omega)
   rw [decide_eq_true (by omega), cond_true, aj, ah (ae (by omega) (by omega)), Int.toNat_natCast, kd _ _ _ _ (by omega)]
   simp only [Option.bind_some]
   have hmem : nm.getD t (bs []) ∈ nm := aZ h1
   have htk := lO (d := bs []) h1
   rw [bZ, aj, hsl']
   rcases CO (X := X) (s := nm.getD t (bs [])) with ⟨j, hj, _, hdj⟩ | hdj
   ·rw [hdj, decide_eq_true (by omega), cond_true, ah (ae (by omega) (by omega)), Int.toNat_natCast]
    have hvj : kB X v j = true := by
     obtain ⟨x, hx, hu, hxs⟩ := EO.1 ((e3 _).1 hmem)
     exact CT.2 ⟨x, hx, hu, by rw [hxs]; exact hdj⟩
    have hrj : Pt.Reach (eR X) a j := by
     rcases hva with rfl | hr
     ·exact .one hvj
     ·exact hr.last hvj
    cases hsj : sn'.getD j false with
    | true =>
     show pY (rec2 (((aB .i64 (t : Int) 1), _), _)) _
     rw [e]
     refine ih2 _ ⟨t + 1, qu', sn', rfl, by omega, hsl', hq', hs', hc', fun s hs j' hj' => ?_, hm'⟩ (by simp only; omega)
     rw [htk] at hs
     rcases List.mem_append.1 hs with hs | hs
     ·exact hn' s hs j' hj'
     ·have : s = nm.getD t (bs []) := by simpa using hs
      rw [this, hdj] at hj'
      have : j' = j := by omega
      rw [this]; exact hsj
    | false =>
     have hul : Jk (sn'.set j true) + 1 = Jk sn' := LW (by omega) hsj
     have hak : Di (qu' ++ [(j : Int)]) 8 = true := fV (by rw [List.length_append]; simp only [List.length_cons, List.length_nil]; omega)
     simp only [Bool.not_false, cb, cond_true]
     rw [aj, hsl', ah (ae (by omega) (by omega)), ah hak, Int.toNat_natCast]
     show pY (rec2 (((aB .i64 (t : Int) 1), _), _)) _
     rw [e]
     have hgm : ∀ k, sn'.getD k false = true → (sn'.set j true).getD k false = true := fun k hk => by
      by_cases hjk : j = k
      ·subst hjk; exact ja (by omega)
      ·rw [getD_set_ne hjk]; exact hk
     have hgn : ∀ k, (sn'.set j true).getD k false = true → k = j ∨ sn'.getD k false = true := fun k hk => by
      by_cases hjk : j = k
      ·exact .inl hjk.symm
      ·rw [getD_set_ne hjk] at hk; exact .inr hk
     refine ih2 _ ⟨t + 1, qu' ++ [(j : Int)], sn'.set j true, rfl, by omega, by rw [List.length_set]; exact hsl', fun z hz => ?_, fun k hk hk2 => ?_, fun w hw => ?_, fun s hs j' hj' => ?_, ?_⟩ (by simp only; omega)
     ·rcases List.mem_append.1 hz with hz | hz
      ·exact hq' z hz
      ·exact ⟨j, by simpa using hz, hj, .inr hrj⟩
     ·rcases hgn k hk2 with rfl | hk2
      ·exact hrj
      ·exact hs' k hk hk2
     ·by_cases hwj : w = j
      ·exact .inl (List.mem_append.2 (.inr (by simp [hwj])))
      ·have hw' : w = a ∨ sn'.getD w false = true := hw.imp id fun hw => (hgn w hw).resolve_left hwj
       rcases hc' w hw' with h | h | h
       ·exact .inl (List.mem_append.2 (.inl h))
       ·exact .inr (.inl h)
       ·exact .inr (.inr fun j' hj' => hgm j' (h j' hj'))
     ·rw [htk] at hs
      rcases List.mem_append.1 hs with hs | hs
      ·exact hgm j' (hn' s hs j' hj')
      ·have : s = nm.getD t (bs []) := by simpa using hs
       rw [this, hdj] at hj'
       have : j' = j := by omega
       rw [this]; exact ja (by omega)
     ·rw [List.length_append]
      simp only [List.length_cons, List.length_nil]
      omega
   ·rw [hdj, decide_eq_false (by omega), cond_false]
    show pY (rec2 (((aB .i64 (t : Int) 1), _), _)) _
    rw [e]
    refine ih2 _ ⟨t + 1, qu', sn', rfl, by omega, hsl', hq', hs', hc', fun s hs j' hj' => ?_, hm'⟩ (by simp only; omega)
    rw [htk] at hs
    rcases List.mem_append.1 hs with hs | hs
    ·exact hn' s hs j' hj'
    ·have : s = nm.getD t (bs []) := by simpa using hs
     rw [this, hdj] at hj'
     omega
  ·rw [decide_eq_false (by omega), cond_false]
   obtain rfl : t = nm.length := by omega
   refine ih _ ⟨qu', sn', rfl, hsl', hq', hs', fun w hw => ?_, by omega⟩ (by simp only [List.length_cons]; omega)
   rcases hc' w hw with h | h | h
   ·exact .inl h
   ·refine .inr fun j hj => ?_
    subst h
    obtain ⟨x, hx, hu, hxd⟩ := CT.1 hj
    exact hn' x.2.2.1 (by rw [List.take_length]; exact (e3 _).2 (EO.2 ⟨x, hx, hu, rfl⟩)) j hxd
   ·exact .inr h
def OL (X : List Df) : Bool := (List.range X.length).any fun i => gQ (kB X) X.length i i
theorem II {X : List Df} {i j : Nat} : gQ (kB X) X.length i j = true ↔ Pt.Reach (eR X) i j := by
 rw [vt]
 exact LV fun i j h => OG h
theorem OM : Ev fun n => ∀ X V L, Sm X V L → ∃ r, nE ((C B0).run n) X V L = some (r, ()) ∧ kG 0 r = OL X := by
 refine OJ.succ fun n hn k X V L h => ?_
 have hX1 := h.1.1
 refine ⟨oO (fun i => gQ (kB X) X.length i i) X.length, ?_, by rw [bZ, mH]; rfl⟩
 rw [aa, Aq]
 unfold sW
 rw [aj]
 refine (dZ (fun i => (((i : Int), ((X.length : Int), ((), (0, ())))), ((X, (V, (L, ()))), ()))) (fun i => if gQ (kB X) X.length i i = true then some ((i : Int), ()) else none) (some (-1, ())) (m := X.length) ?_ ?_ (by omega)).trans (mI (f := fun x => (x, ())))
 ·intro rec i hi
  obtain ⟨r, e1, e2, e3⟩ := k X V L i h hi
  dsimp only
  rw [ab, decide_eq_true (by omega), cond_true, e1]
  simp only [Option.bind_some]
  rw [aj, e2, ah (ae (by omega) (by omega)), Int.toNat_natCast, ar (by omega) (by omega), show r.getD i false = gQ (kB X) X.length i i by rw [Bool.eq_iff_iff, e3 i hi, II]]
  cases gQ (kB X) X.length i i <;> rfl
 ·intro rec
  dsimp only
  rw [ab, decide_eq_false (by omega), cond_false]
def tk : Code := fun X V L =>
 if NH X V L = 0 then
  if tP (KH X) X = 0 then
   if tP (Jl X V) L = 0 then
    bif OL X then 10 else bif decide (V.length = 0) || decide (L.length = 0) then 11 else 0
   else tP (Jl X V) L
  else tP (KH X) X
 else NH X V L
theorem L8 {α : Type} {l : List α} : (len l == 0) = decide (l.length = 0) := by
 rw [aj]
 cases l with
 | nil => rfl
 | cons x l => simp; omega
theorem EP : Ev fun n => ∀ X V L, Sm X V L → iN ((C B0).run n) X V L = some (tk X V L, ()) := by
 refine ((Iz.and ((Oz (B := B0)).and (L0 (B := B0)))).and ((IE (B := B0)).and (IF.and OM))).succ fun n hn ⟨⟨kf, km, ka⟩, kd, kr, kl⟩ X V L h => ?_
 have hX1 := h.1.1
 have hL1 := h.2.2.1
 rw [aa, B5]
 unfold uM tk NH
 rw [kf X V L h, km X V L h, ka X V L h]
 simp only [Option.bind_some]
 cases fm X V L with
 | false => rfl
 | true =>
  cases Qm X V L with
  | true => rfl
  | false =>
   cases La X V with
   | true => rfl
   | false =>
    simp only [Bool.not_true, cond_false, if_true]
    rw [aj]
    refine (eJ (fun i => (((i : Int), ((X.length : Int), (X, ((), (0, ()))))), ((X, (V, (L, ()))), ()))) (fun d => if KH X d = 0 then none else some (KH X d, ())) X cg (some ((if tP (Jl X V) L = 0 then bif OL X then 10 else bif decide (V.length = 0) || decide (L.length = 0) then 11 else 0 else tP (Jl X V) L), ())) ?_ ?_ (by omega)).trans ?_
    ·intro rec i hi
     have e : aB .i64 (i : Int) 1 = ((i + 1 : Nat) : Int) := ar (by omega) (by omega)
     dsimp only
     rw [ab, decide_eq_true (by omega), cond_true, aj, ah (ae (by omega) (by omega)), Int.toNat_natCast, kd X V L _ h (h.1.2 _ (aZ hi))]
     simp only [Option.bind_some]
     rw [bne_eq, e]
     by_cases h0 : KH X (X.getD i cg) = 0
     ·rw [decide_eq_false (fun hh => hh h0), if_pos h0]; rfl
     ·rw [decide_eq_true h0, if_neg h0]; rfl
    ·intro rec
     dsimp only
     rw [ab, decide_eq_false (by omega), cond_false, aj]
     refine (eJ (fun i => (((i : Int), ((L.length : Int), (L, ((), (0, ()))))), ((X, (V, (L, ()))), ()))) (fun r => if Jl X V r = 0 then none else some (Jl X V r, ())) L dA (some ((bif OL X then 10 else bif decide (V.length = 0) || decide (L.length = 0) then 11 else 0), ())) ?_ ?_ (by omega)).trans ?_
     ·intro rec i hi
      have e : aB .i64 (i : Int) 1 = ((i + 1 : Nat) : Int) := ar (by omega) (by omega)
      dsimp only
      rw [ab, decide_eq_true (by omega), cond_true, aj, ah (ae (by omega) (by omega)), Int.toNat_natCast, kr X V L _ h (h.2.2.2 _ (aZ hi))]
      simp only [Option.bind_some]
      rw [bne_eq, e]
      by_cases h0 : Jl X V (L.getD i dA) = 0
      ·rw [decide_eq_false (fun hh => hh h0), if_pos h0]; rfl
      ·rw [decide_eq_true h0, if_neg h0]; rfl
     ·intro rec
      dsimp only
      obtain ⟨r, e1, e2⟩ := kl X V L h
      rw [ab, decide_eq_false (by omega), cond_false, e1]
      simp only [Option.bind_some]
      rw [e2, L8, L8]
      cases OL X <;> cases decide (V.length = 0) <;> cases decide (L.length = 0) <;> rfl
     ·rw [F6 (g := fun x => (x, ()))]
      split <;> rfl
    ·rw [F6 (g := fun x => (x, ()))]
     split <;> rfl
end Go.Px.Seat
namespace Go.Px.Seat
open Go Pm Pt
section
variable {α : Type} {f : α → Int} {l : List α} {i : Nat} {d : α}
theorem Hm (hi : i < l.length) (h0 : tP f (l.take i) = 0) (h : f (l.getD i d) ≠ 0) : tP f l = f (l.getD i d) := by
 have : l = l.take i ++ l.getD i d :: l.drop (i + 1) := by
  rw [List.getD_eq_getElem?_getD, List.getElem?_eq_getElem hi]
  simp
 rw [show tP f l = tP f (l.take i ++ l.getD i d :: l.drop (i + 1)) from congrArg _ this, yb, if_pos h0, vq, if_neg h]
theorem KK (hi : i < l.length) (h0 : tP f (l.take i) = 0) (h : f (l.getD i d) = 0) : tP f (l.take (i + 1)) = 0 := by
 rw [lO (d := d) hi, yb, if_pos h0, vq, if_pos h, Hi]
end
theorem ER : Ev fun n => ∀ X V L, Sm X V L → iO ((C B0).run n) X V L = some (tk X V L, ()) := by
 refine (L3.and (((CR (B := B0)).and CS).and (L6 (B := B0)))).succ fun n hn ⟨ks, ⟨kd, kr⟩, kt⟩ X V L h => ?_
 have hX1 := h.1.1
 have hL1 := h.2.2.1
 rw [aa, B7]
 unfold uO
 rw [ks X V L h]
 simp only [Option.bind_some]
 refine aN (fun q => (∃ i : Nat, q = (((i : Int), ((), (0, (0, ())))), ((X, (V, (L, ()))), ([], ()))) ∧ i ≤ X.length ∧ tP (KH X) (X.take i) = 0 ∧ NH X V L = 0) ∨ (∃ (i : Nat) (c : Int), q = (((i : Int), ((), (c, (0, ())))), ((X, (V, (L, ()))), ([], ()))) ∧ i ≤ X.length ∧ c ≠ 0 ∧ tk X V L = c)) (fun q => 1048577 - q.1.1.toNat) _ ?_ n _ (by simp only; omega) (by
  by_cases h0 : NH X V L = 0
  ·exact .inl ⟨0, by rw [h0]; rfl, Nat.zero_le _, rfl, h0⟩
  ·exact .inr ⟨0, NH X V L, rfl, Nat.zero_le _, h0, by unfold tk; rw [if_neg h0]⟩)
 rintro rec _ (⟨i, rfl, hi, hz, hsh⟩ | ⟨i, c, rfl, hi, hc, hcc⟩) ih
 ·dsimp only
  rw [aj, ab]
  by_cases h1 : i < X.length
  ·rw [decide_eq_true (by omega)]
   simp only [cond_true, cb]
   rw [show ((0 : Int) == 0) = true from rfl, cond_true, aj, ah (ae (by omega) (by omega)), Int.toNat_natCast, kd X V L _ h (h.1.2 _ (aZ h1))]
   simp only [Option.bind_some]
   rw [ar (by omega) (by omega)]
   by_cases h0 : KH X (X.getD i cg) = 0
   ·rw [h0]
    exact ih _ (.inl ⟨i + 1, rfl, by omega, KK h1 hz h0, hsh⟩) (by simp only; omega)
   ·exact ih _ (.inr ⟨i + 1, _, rfl, by omega, h0, by
     unfold tk
     have := Hm h1 hz h0
     rw [if_pos hsh, if_neg (by rw [this]; exact h0), this]⟩) (by simp only; omega)
  ·rw [decide_eq_false (by omega)]
   simp only [cond_false, cb]
   obtain rfl : i = X.length := by omega
   rw [List.take_length] at hz
   clear ih
   refine aN (fun q => (∃ i : Nat, q = (((i : Int), ((), (0, (0, ())))), ((X, (V, (L, ()))), ([], ()))) ∧ i ≤ L.length ∧ tP (Jl X V) (L.take i) = 0) ∨ (∃ (i : Nat) (c : Int), q = (((i : Int), ((), (c, (0, ())))), ((X, (V, (L, ()))), ([], ()))) ∧ i ≤ L.length ∧ c ≠ 0 ∧ tk X V L = c)) (fun q => 1048577 - q.1.1.toNat) _ ?_ n _ (by simp only; omega) (.inl ⟨0, rfl, Nat.zero_le _, rfl⟩)
   rintro rec _ (⟨i, rfl, hi, hz2⟩ | ⟨i, c, rfl, hi, hc, hcc⟩) ih
   ·dsimp only
    rw [aj, ab]
    by_cases h1 : i < L.length
    ·rw [decide_eq_true (by omega)]
     simp only [cond_true, cb]
     rw [show ((0 : Int) == 0) = true from rfl, cond_true, aj, ah (ae (by omega) (by omega)), Int.toNat_natCast, kr X V L _ h (h.2.2.2 _ (aZ h1))]
     simp only [Option.bind_some]
     rw [ar (by omega) (by omega)]
     by_cases h0 : Jl X V (L.getD i dA) = 0
     ·rw [h0]
      exact ih _ (.inl ⟨i + 1, rfl, by omega, KK h1 hz2 h0⟩) (by simp only; omega)
     ·exact ih _ (.inr ⟨i + 1, _, rfl, by omega, h0, by
       unfold tk
       have := Hm h1 hz2 h0
       rw [if_pos hsh, if_pos hz, if_neg (by rw [this]; exact h0), this]⟩) (by simp only; omega)
    ·rw [decide_eq_false (by omega)]
     simp only [cond_false, cb]
     obtain rfl : i = L.length := by omega
     rw [List.take_length] at hz2
     rw [show ((0 : Int) != 0) = false from rfl, cond_false, kt X V L h]
     simp only [Option.bind_some]
     have hcode : tk X V L = bif OL X then 10 else bif decide (V.length = 0) || decide (L.length = 0) then 11 else 0 := by
      unfold tk
      rw [if_pos hsh, if_pos hz, if_pos hz2]
     rw [hcode]
     refine (dZ (fun i => (((i : Int), (Jm X.length, ((), (0, ())))), ((X, (V, (L, ()))), (pk X.length (gQ (kB X) X.length), ())))) (fun i => if gQ (kB X) X.length i i = true then some (10, ()) else none) (some ((bif decide (V.length = 0) || decide (L.length = 0) then 11 else 0), ())) (m := X.length) ?_ ?_ (by omega)).trans ?_
     ·intro rec i hi
      dsimp only
      rw [aj, lG, ab, decide_eq_true (by omega), cond_true, ah (ae (by omega) (by omega)), Int.toNat_natCast, CU hi]
      simp only [Nat.zero_add]
      rw [ah (ae (by omega) (by omega)), ah (pc (pn hi) (by rw [Aa]; exact hi)), kN (pn hi), vr hi, ar (by omega) (by omega)]
      cases gQ (kB X) X.length i i <;> rfl
     ·intro rec
      dsimp only
      rw [aj, lG, ab, decide_eq_false (by omega), cond_false, L8, L8]
      cases decide (V.length = 0) <;> cases decide (L.length = 0) <;> rfl
     ·rw [tM]
      unfold OL
      cases (List.range X.length).any fun i => gQ (kB X) X.length i i <;> rfl
   ·have hcz : (c == 0) = false := by simpa using hc
    have hcn : (c != 0) = true := by simpa using hc
    dsimp only
    rw [hcc]
    cases bS (i : Int) (len L) <;> simp only [cond_true, cond_false, cb, hcz, hcn]
 ·have hcz : (c == 0) = false := by simpa using hc
  have hcn : (c != 0) = true := by simpa using hc
  obtain ⟨m, rfl⟩ : ∃ m, n = m + 1 := ⟨n - 1, by omega⟩
  dsimp only
  rw [hcc]
  have hin : ∀ {F : ((Int × Unit × Int × Int × Unit) × (List Df × List ByteArray × List Rl × Unit) × Mem Bool × Unit → Option (Int × Unit)) → (Int × Unit × Int × Int × Unit) × (List Df × List ByteArray × List Rl × Unit) × Mem Bool × Unit → Option (Int × Unit)} {q}, (∀ rec, F rec q = some (c, ())) → iter F (m + 1) q = some (c, ()) := fun h => h _
  cases bS (i : Int) (len X) <;> simp only [cond_true, cond_false, cb, hcz] <;> (apply hin; intro rec; cases bS (0 : Int) (len L) <;> simp only [cond_true, cond_false, cb, hcz, hcn])
end Go.Px.Seat
namespace Go.Px.Seat
open Go Pm Pt
theorem oP : Ev fun n => ∀ (D : Mem Dh) (R : Mem Rh) (S : Mem ByteArray) (N : Mem Tn) (X : List Df) (V : List ByteArray) (L : List Rl) (o nm : ByteArray), mO hY X → Bi hY V → pb hY L →
   ∃ D' R' S' N', ej ((C B0).run n) D R S N X V L o nm = some (D', (R', (S', (N', (true, ()))))) :=
 sk EP ER
end Go.Px.Seat
