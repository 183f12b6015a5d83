/- slices.Grow of a slice without elements. -/
import Derived.Test.YtmmggkldldbomaaGreatDoorR3
import Derived.Shelf.Spec.SlicesGrow
set_option linter.unusedVariables false
namespace Go.Px
open Go
def KV (P : Program) (f : FuncId) : Prop := ∀ (base : Option Addr) (l c n : Nat) (w : World), l ≤ c → c ≤ 9223372036854775807 → n ≤ 9223372036854775807 → l + n ≤ c → Calls P f #[.slice base l c, .int .i64 n] w fun e w' => e = .returned (.slice base l c) ∧ w' = w
def Nf (P : Program) (f : FuncId) (et : TypeId) (i0 : TypeInfo) (z : Value) : Prop := ∀ (base : Option Addr) (l c n : Nat) (cs : List Value) (w : World), l ≤ c → c < l + n → (l + n) * i0.bytes ≤ 140737488355328 → l + n ≤ 4611686018427387904 → cs.length = c * i0.size →
 (base = none → c = 0) → (∀ a, base = some a → ∀ j v, cs[j]? = some v → w.cell? (a.add j) = some v) → Calls P f #[.slice base l c, .int .i64 n] w fun e w' =>
  e = .returned (.slice (some ⟨w.heap.size, 0, none⟩) l (grownCap w (l + n) c et)) ∧ w' = w.drew.alloc (.cells (cs.toArray ++ Builtin.zeroCells z.cells (l + n - c) ++ Builtin.zeroCells z.cells (grownCap w (l + n) c et - (l + n))) et)
theorem ET {P : Program} {G : gl} {f : FuncId} {et : Nat} {t : Ty} {i0 : TypeInfo} {z : Value} (h1 : KV P f) (h2 : Nf P f et i0 z) (hz : z.cells.size = t.size) (hs : i0.size = t.size) (hb : i0.bytes ≤ 1000) :
  bU P G f ⟨⟨[.cell (.row t et false), .cell (.val (.int .i64) false)], [(0, [.row t et true])], []⟩, fun q => if (show List t.den from q.1) = [] ∧ (0 : Int) ≤ (show Int from q.2.1) ∧ (show Int from q.2.1) ≤ (4000000 : Int) then some (q.1, ()) else none⟩ := by
 intro w SA N0 vs ps bs mv p q hq hin
 obtain ⟨mA, mB, rfl, ⟨v, r, p1, p2, b1, b2, m1, m2, rfl, rfl, rfl, rfl, ⟨rfl, rfl, v', r', cells, bb, e1, rfl, hown, hch, e3, e4⟩, v2, r2, p1', p2', b1', b2', m1', m2', rfl, rfl, rfl, rfl, ⟨rfl, rfl, v2', r2', e2, hrep2, rfl, rfl⟩, rfl, rfl, rfl, rfl⟩, hm⟩ := hin.args
 cases e1
 cases e2
 change mB = [] at hm
 subst hm
 have e4 : bb = [] := e4
 subst e4
 obtain ⟨l, k, u⟩ := p
 cases u
 change List t.den at l
 change Int at k
 change (if l = [] ∧ 0 ≤ k ∧ k ≤ 4000000 then some ((l, ()) : List t.den × Unit) else none) = some q at hq
 have hk : [v2] = [Value.int .i64 k] := hrep2
 cases hk
 split at hq
 ·rename_i hc
  obtain ⟨rfl, hk0, hk1⟩ := hc
  cases hq
  obtain ⟨n, rfl⟩ : ∃ n : Nat, k = (n : Int) := ⟨k.toNat, by omega⟩
  have hnb : n * i0.bytes ≤ 140737488355328 := Nat.le_trans (Nat.mul_le_mul (show n ≤ 4000000 by omega) hb) (by decide)
  change w.fc 0 et t.size v 0 cells at hown
  have hmem0 : ∀ x ∈ (bo v).toList, x < w.heap.size := fun x hx => by
   obtain ⟨A, N, C, hv⟩ := iq hown
   have hob : bo v = v.ownBlock := fE ⟨A, N, C, hv⟩
   refine (hown.lt x ?_).2
   rw [← hob]
   cases h : bo v with
   | none => rw [h] at hx; cases hx
   | some y => rw [h] at hx; simp at hx; rw [hx]
  have fin : ∀ {e : Ending} {w' : World} {v2 : Value}, e = .returned v2 → w'.os = w.os → w'.tape = w.tape → w'.output = w.output → w.heap.size ≤ w'.heap.size → (∀ k, k < w.heap.size → w'.heap[k]? = w.heap[k]?) → w'.fc 0 et t.size v2 0 [] →
    (∀ x ∈ (bo v2).toList, w.heap.size ≤ x ∨ x ∈ (bo v).toList) →
    ∃ v3 SF us b1 b2, e = .returned v3 ∧ sy w SA N0 ([] ++ ([] ++ [])) ((bo v).toList ++ [] ++ ([] ++ []) ++ []) ([] ++ ([] ++ [])) ⟨[.cell (.row t et false), .cell (.val (.int .i64) false)], [(0, [.row t et true])], []⟩ ((([] : List t.den), ()) : List t.den × Unit) v3 w' SF us b1 b2 := fun {e w' v2} he g1 g2 g3 g4 g5 g6 g7 => by
   have hlt : ∀ x ∈ (bo v2).toList, x < w'.heap.size := fun x hx => by
    obtain ⟨A, N, C, hv⟩ := iq g6
    have hob : bo v2 = v2.ownBlock := fE ⟨A, N, C, hv⟩
    refine (g6.lt x ?_).2
    rw [← hob]
    cases h : bo v2 with
    | none => rw [h] at hx; cases hx
    | some y => rw [h] at hx; simp at hx; rw [hx]
   exact ⟨v2, N0, [v2], (bo v2).toList, [], he, g1, g2, g3, g4, fun k hk _ => g5 k hk, fun k hk => (hin.n0 k hk).elim, fun l h => h, ⟨(bo v2).toList, [], by simp, ⟨v2, [], (bo v2).toList, [], rfl, by simp, .inr ⟨(fun h => by cases h), [v2], ⟨v2, [], [], [], rfl, by simp, g6, rfl, rfl, rfl⟩, rfl⟩, rfl, rfl⟩, rfl⟩, rfl, ⟨rfl, rfl⟩,
    fun x hx => ⟨(g7 x hx).imp id fun h => by simpa using h, hlt x hx⟩, fun k _ => hin.n0 k, fun k hk => (by cases hk), by cases bo v2 <;> simp⟩
  have hnew : ∀ {c : Nat} {cs : List Value}, c < 0 + n → cs.length = c * i0.size →
    ∀ e w', (e = Ending.returned (.slice (some ⟨w.heap.size, 0, none⟩) 0 (grownCap w (0 + n) c et)) ∧ w' = w.drew.alloc (.cells (cs.toArray ++ Builtin.zeroCells z.cells (0 + n - c) ++ Builtin.zeroCells z.cells (grownCap w (0 + n) c et - (0 + n))) et)) →
    ∃ v3 SF us b1 b2, e = .returned v3 ∧ sy w SA N0 ([] ++ ([] ++ [])) ((bo v).toList ++ [] ++ ([] ++ []) ++ []) ([] ++ ([] ++ [])) ⟨[.cell (.row t et false), .cell (.val (.int .i64) false)], [(0, [.row t et true])], []⟩ ((([] : List t.den), ()) : List t.den × Unit) v3 w' SF us b1 b2 := fun {c cs} hc hl e w' ⟨he, hw⟩ => by
   subst hw
   refine fin he rfl rfl rfl (by simp) (fun k hk => by exact heap_alloc_old w.drew _ hk) ?_ (fun x hx => ?_)
   ·have hge := grownCap_ge w (0 + n) c et
    refine ⟨by simp, .inr ⟨w.heap.size, 0, _, _, rfl, Nat.zero_le _, heap_alloc_new w.drew _, Nat.zero_le _, grownCap_le_maxLen w (0 + n) c et (by simp only [maxLen]; omega), ?_, by simp⟩⟩
    simp only [Array.size_append, List.size_toArray, size_zeroCells, hz, hl, hs, ← Nat.add_mul, Nat.zero_add]
    refine Nat.mul_le_mul_right _ ?_
    simp only [Nat.zero_add] at hge hc
    omega
   ·left
    have : x = w.heap.size := by simpa [bo] using hx
    omega
  rcases hown.2 with ⟨rfl, _⟩ | ⟨g, b0, cap, cur, rfl, _, hg, _, hcm, hcs, _⟩
  ·by_cases hn : n = 0
   ·subst hn
    refine (h1 none 0 0 0 w (Nat.le_refl _) (by omega) (by omega) (by omega)).mono fun e w' ⟨he, hw⟩ => ?_
    subst hw
    exact fin he rfl rfl rfl (Nat.le_refl _) (fun _ _ => rfl) (World.dW _ _ _ _) (fun x hx => by cases hx)
   ·exact (h2 none 0 0 n [] w (Nat.le_refl _) (by omega) (by rw [Nat.zero_add]; exact hnb) (by omega) (by simp) (fun _ => rfl) (fun a h => by cases h)).mono fun e w' h => hnew (c := 0) (cs := []) (by omega) (by simp) e w' h
  ·by_cases hn : n ≤ cap
   ·refine (h1 (some ⟨g, b0, none⟩) 0 cap n w (Nat.zero_le _) (by simp only [maxLen] at hcm; omega) (by omega) (by omega)).mono fun e w' ⟨he, hw⟩ => ?_
    subst hw
    refine fin he rfl rfl rfl (Nat.le_refl _) (fun _ _ => rfl) ?_ (fun x hx => .inr hx)
    have h0 : cells = [] := List.eq_nil_of_length_eq_zero (by rw [hown.1, Nat.zero_mul])
    rw [← h0]
    exact hown
   ·have hl : ((cur.toList.drop b0).take (cap * t.size)).length = cap * i0.size := by
     rw [hs, List.length_take, List.length_drop, Array.length_toList]
     omega
    refine (h2 (some ⟨g, b0, none⟩) 0 cap n ((cur.toList.drop b0).take (cap * t.size)) w (Nat.zero_le _) (by omega) (by rw [Nat.zero_add]; exact hnb) (by omega) hl (fun h => by cases h) (fun a h j u hu => ?_)).mono fun e w' h => hnew (by omega) hl e w' h
    cases h
    exact iJ hg j u hu
 ·cases hq
end Go.Px
