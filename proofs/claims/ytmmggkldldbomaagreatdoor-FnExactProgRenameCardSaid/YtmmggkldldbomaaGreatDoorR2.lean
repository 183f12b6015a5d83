/- slices.Clone: its walk, for any type of elements. Printed by mkclone.py. -/
import Derived.Test.YtmmggkldldbomaaGreatDoorA5
import Derived.Test.YtmmggkldldbomaaGreatDoorProg
import Derived.WalkKit
import Derived.Lib.LazyBuf
import Derived.OwnWalk
import Derived.Maps.AppendAt
set_option linter.unusedVariables false
namespace Go.Px
open Go
theorem Qs {w : World} {e size : Nat} {v : Value} {n : Nat} {xs : List Value} (h : w.ownsRow 0 e size v n xs) : w.fc 0 e size v n xs :=
 ⟨h.1, h.2.imp id fun ⟨g, cap, cur, h1, h2, h3, h4, h5, h6, h7⟩ => ⟨g, 0, cap, cur, h1, h2, h3, h4, h5, by rw [h6, Nat.zero_add]; exact Nat.le_refl _, h7⟩⟩
def eX (P : Program) (f : FuncId) (e size : Nat) (ad : Option Addr) (n cap : Nat) (w : World) (us : List Value) : Prop :=
 Calls P f #[.slice ad n cap] w fun x w' => ∃ v, x = .returned v ∧ w'.fc 0 e size v n us ∧ RowKit.Below w.heap.size w w' ∧ ∀ k, v.ownBlock = some k → w.heap.size ≤ k
theorem r8 {w w1 : World} {e size n : Nat} {v' : Value} {us : List Value} (hown : w1.ownsRow 0 e size v' (0 + n) ([] ++ us)) (hgrow : (w.alloc (.cells #[] e)).grownBy w1 (Value.slice (some ⟨w.heap.size, 0, none⟩) 0 0).ownBlock)
  (hloc : v'.ownBlock = (Value.slice (some ⟨w.heap.size, 0, none⟩) 0 0).ownBlock ∨ v'.ownBlock = some (w.alloc (.cells #[] e)).heap.size) :
  w1.fc 0 e size v' n us ∧ RowKit.Below w.heap.size w w1 ∧ ∀ k, v'.ownBlock = some k → w.heap.size ≤ k := by
 rw [Nat.zero_add] at hown
 refine ⟨Qs hown, ?_, fun k hk => ?_⟩
 ·have h0 : RowKit.Below w.heap.size w (w.alloc (.cells #[] e)) := (RowKit.Below.refl _ _).alloc (Nat.le_refl _) _
  refine h0.grown hgrow (by show w.heap.size ≤ (w.heap.push _).size; simp) (fun k hk => ?_)
  have : some w.heap.size = some k := hk
  injection this with h
  omega
 ·rcases hloc with h | h
  ·rw [hk] at h
   have : some k = some w.heap.size := h
   injection this with h
   omega
  ·rw [hk] at h
   have : some k = some (w.heap.push (.cells #[] e)).size := h
   injection this with h
   rw [Array.size_push] at h
   omega
set_option maxRecDepth 100000 in
theorem AJ (ad : Option Addr) (n cap : Nat) (w : World) (us : List Value) (hl : us.length = n * 3) (hle : n ≤ 4000000) (hone : ∀ u ∈ us, u.oneCell' = true) (hnone : ad = none → n = 0)
  (hc : ∀ x, ad = some x → ∀ j u, us[j]? = some u → w.cell? (x.add j) = some u) (had : ∀ x, ad = some x → 0 < n → x.block < w.heap.size) : eX Go.Proofs.Tryz.prog 130 59 3 ad n cap w us := by
 have heq : ∀ w1, (binOp .eql 23 (.slice ad n cap) (.slice none 0 0)).run Go.Proofs.Tryz.prog w1 = .ok (.bool ad.isNone) w1 := fun w1 => run_eql_slice_nil w1 23 59 ad n cap Go.Proofs.Tryz.underlying23
 cases ad with
 | none =>
  obtain rfl := hnone rfl
  obtain rfl : us = [] := List.eq_nil_of_length_eq_zero (by simpa using hl)
  clear hl hle hone hnone hc had
  unfold eX
  go_enter Go.Proofs.Tryz.func130, Go.Proofs.Tryz.ntmps130
  go_wp2
  go_ret
  exact ⟨_, rfl, World.dW _ _ _ _, RowKit.Below.refl _ _, fun k hk => by cases hk⟩
 | some ad =>
  have hc := hc ad rfl
  have hcell : ∀ j u, us[j]? = some u → (w.alloc (.cells #[] 59)).cell? (ad.add j) = some u := fun j u h => by
   have hb : ∀ j, (ad.add j).block = ad.block := fun j => by unfold Addr.add; split <;> rfl
   have hp : 0 < n := by
    have := (List.getElem?_eq_some_iff.1 h).1
    rw [hl] at this
    exact Nat.pos_of_ne_zero fun h0 => by subst h0; simp at this
   rw [← hc j u h]
   exact World.cell?_of_block (RowKit.Below.heap_alloc w _ _ (by rw [hb]; exact had ad rfl hp))
  have hown : (w.alloc (.cells #[] 59)).ownsRow 0 59 3 (.slice (some ⟨w.heap.size, 0, none⟩) 0 0) 0 [] := by
   refine ⟨rfl, .inr ⟨w.heap.size, 0, #[], rfl, by omega, ?_, by omega, by simp only [maxLen]; omega, rfl, rfl⟩⟩
   show (w.heap.push _)[w.heap.size]? = _
   rw [Array.getElem?_push, if_pos rfl]
  obtain ⟨i0, hi, hz0, hz1, hz2⟩ : ∃ i0, Go.Proofs.Tryz.prog.info? 59 = some i0 ∧ i0.zero = some (.agg #[.string ByteArray.empty, .slice none 0 0, .slice none 0 0]) ∧ i0.size = 3 ∧ i0.bytes = 64 := ⟨Go.Proofs.Tryz.t59, by kernel_rfl, by kernel_rfl, by kernel_rfl, by kernel_rfl⟩
  clear hc had hnone
  unfold eX
  go_enter Go.Proofs.Tryz.func130, Go.Proofs.Tryz.ntmps130
  go_wp2_with (first | (at_builtin; refine wpList_append_own_at _ rfl _ _ 23 rfl 0 59 i0 (.agg #[.string ByteArray.empty, .slice none 0 0, .slice none 0 0]) 3 64 Go.Proofs.Tryz.underlying23 hi hz0 hz1 hz2 rfl (by decide) _ _ _ rfl hown ad n cap us rfl hl hcell hone (by simp only [maxLen]; omega) (by omega) (by omega) ?_; intro v' w1 hown' hgrow hnil hloc))
  obtain ⟨h1, h2, h3⟩ := r8 hown' hgrow hloc
  clear hown' hgrow hnil hloc hown hcell hi hz0 hz1 hz2
  go_ret
  exact ⟨_, rfl, h1, h2, h3⟩
set_option maxRecDepth 100000 in
theorem AK (ad : Option Addr) (n cap : Nat) (w : World) (us : List Value) (hl : us.length = n * 3) (hle : n ≤ 4000000) (hone : ∀ u ∈ us, u.oneCell' = true) (hnone : ad = none → n = 0)
  (hc : ∀ x, ad = some x → ∀ j u, us[j]? = some u → w.cell? (x.add j) = some u) (had : ∀ x, ad = some x → 0 < n → x.block < w.heap.size) : eX Go.Proofs.Tryz.prog 133 57 3 ad n cap w us := by
 have heq : ∀ w1, (binOp .eql 25 (.slice ad n cap) (.slice none 0 0)).run Go.Proofs.Tryz.prog w1 = .ok (.bool ad.isNone) w1 := fun w1 => run_eql_slice_nil w1 25 57 ad n cap Go.Proofs.Tryz.underlying25
 cases ad with
 | none =>
  obtain rfl := hnone rfl
  obtain rfl : us = [] := List.eq_nil_of_length_eq_zero (by simpa using hl)
  clear hl hle hone hnone hc had
  unfold eX
  go_enter Go.Proofs.Tryz.func133, Go.Proofs.Tryz.ntmps133
  go_wp2
  go_ret
  exact ⟨_, rfl, World.dW _ _ _ _, RowKit.Below.refl _ _, fun k hk => by cases hk⟩
 | some ad =>
  have hc := hc ad rfl
  have hcell : ∀ j u, us[j]? = some u → (w.alloc (.cells #[] 57)).cell? (ad.add j) = some u := fun j u h => by
   have hb : ∀ j, (ad.add j).block = ad.block := fun j => by unfold Addr.add; split <;> rfl
   have hp : 0 < n := by
    have := (List.getElem?_eq_some_iff.1 h).1
    rw [hl] at this
    exact Nat.pos_of_ne_zero fun h0 => by subst h0; simp at this
   rw [← hc j u h]
   exact World.cell?_of_block (RowKit.Below.heap_alloc w _ _ (by rw [hb]; exact had ad rfl hp))
  have hown : (w.alloc (.cells #[] 57)).ownsRow 0 57 3 (.slice (some ⟨w.heap.size, 0, none⟩) 0 0) 0 [] := by
   refine ⟨rfl, .inr ⟨w.heap.size, 0, #[], rfl, by omega, ?_, by omega, by simp only [maxLen]; omega, rfl, rfl⟩⟩
   show (w.heap.push _)[w.heap.size]? = _
   rw [Array.getElem?_push, if_pos rfl]
  obtain ⟨i0, hi, hz0, hz1, hz2⟩ : ∃ i0, Go.Proofs.Tryz.prog.info? 57 = some i0 ∧ i0.zero = some (.agg #[.int .i64 0, .slice none 0 0, .slice none 0 0]) ∧ i0.size = 3 ∧ i0.bytes = 56 := ⟨Go.Proofs.Tryz.t57, by kernel_rfl, by kernel_rfl, by kernel_rfl, by kernel_rfl⟩
  clear hc had hnone
  unfold eX
  go_enter Go.Proofs.Tryz.func133, Go.Proofs.Tryz.ntmps133
  go_wp2_with (first | (at_builtin; refine wpList_append_own_at _ rfl _ _ 25 rfl 0 57 i0 (.agg #[.int .i64 0, .slice none 0 0, .slice none 0 0]) 3 56 Go.Proofs.Tryz.underlying25 hi hz0 hz1 hz2 rfl (by decide) _ _ _ rfl hown ad n cap us rfl hl hcell hone (by simp only [maxLen]; omega) (by omega) (by omega) ?_; intro v' w1 hown' hgrow hnil hloc))
  obtain ⟨h1, h2, h3⟩ := r8 hown' hgrow hloc
  clear hown' hgrow hnil hloc hown hcell hi hz0 hz1 hz2
  go_ret
  exact ⟨_, rfl, h1, h2, h3⟩
set_option maxRecDepth 100000 in
theorem AL (ad : Option Addr) (n cap : Nat) (w : World) (us : List Value) (hl : us.length = n * 1) (hle : n ≤ 4000000) (hone : ∀ u ∈ us, u.oneCell' = true) (hnone : ad = none → n = 0)
  (hc : ∀ x, ad = some x → ∀ j u, us[j]? = some u → w.cell? (x.add j) = some u) (had : ∀ x, ad = some x → 0 < n → x.block < w.heap.size) : eX Go.Proofs.Tryz.prog 131 9 1 ad n cap w us := by
 have heq : ∀ w1, (binOp .eql 24 (.slice ad n cap) (.slice none 0 0)).run Go.Proofs.Tryz.prog w1 = .ok (.bool ad.isNone) w1 := fun w1 => run_eql_slice_nil w1 24 9 ad n cap Go.Proofs.Tryz.underlying24
 cases ad with
 | none =>
  obtain rfl := hnone rfl
  obtain rfl : us = [] := List.eq_nil_of_length_eq_zero (by simpa using hl)
  clear hl hle hone hnone hc had
  unfold eX
  go_enter Go.Proofs.Tryz.func131, Go.Proofs.Tryz.ntmps131
  go_wp2
  go_ret
  exact ⟨_, rfl, World.dW _ _ _ _, RowKit.Below.refl _ _, fun k hk => by cases hk⟩
 | some ad =>
  have hc := hc ad rfl
  have hcell : ∀ j u, us[j]? = some u → (w.alloc (.cells #[] 9)).cell? (ad.add j) = some u := fun j u h => by
   have hb : ∀ j, (ad.add j).block = ad.block := fun j => by unfold Addr.add; split <;> rfl
   have hp : 0 < n := by
    have := (List.getElem?_eq_some_iff.1 h).1
    rw [hl] at this
    exact Nat.pos_of_ne_zero fun h0 => by subst h0; simp at this
   rw [← hc j u h]
   exact World.cell?_of_block (RowKit.Below.heap_alloc w _ _ (by rw [hb]; exact had ad rfl hp))
  have hown : (w.alloc (.cells #[] 9)).ownsRow 0 9 1 (.slice (some ⟨w.heap.size, 0, none⟩) 0 0) 0 [] := by
   refine ⟨rfl, .inr ⟨w.heap.size, 0, #[], rfl, by omega, ?_, by omega, by simp only [maxLen]; omega, rfl, rfl⟩⟩
   show (w.heap.push _)[w.heap.size]? = _
   rw [Array.getElem?_push, if_pos rfl]
  obtain ⟨i0, hi, hz0, hz1, hz2⟩ : ∃ i0, Go.Proofs.Tryz.prog.info? 9 = some i0 ∧ i0.zero = some (.string ByteArray.empty) ∧ i0.size = 1 ∧ i0.bytes = 16 := ⟨Go.Proofs.Tryz.t9, by kernel_rfl, by kernel_rfl, by kernel_rfl, by kernel_rfl⟩
  clear hc had hnone
  unfold eX
  go_enter Go.Proofs.Tryz.func131, Go.Proofs.Tryz.ntmps131
  go_wp2_with (first | (at_builtin; refine wpList_append_own_at _ rfl _ _ 24 rfl 0 9 i0 (.string ByteArray.empty) 1 16 Go.Proofs.Tryz.underlying24 hi hz0 hz1 hz2 rfl (by decide) _ _ _ rfl hown ad n cap us rfl hl hcell hone (by simp only [maxLen]; omega) (by omega) (by omega) ?_; intro v' w1 hown' hgrow hnil hloc))
  obtain ⟨h1, h2, h3⟩ := r8 hown' hgrow hloc
  clear hown' hgrow hnil hloc hown hcell hi hz0 hz1 hz2
  go_ret
  exact ⟨_, rfl, h1, h2, h3⟩
set_option maxRecDepth 100000 in
theorem AM (ad : Option Addr) (n cap : Nat) (w : World) (us : List Value) (hl : us.length = n * 3) (hle : n ≤ 4000000) (hone : ∀ u ∈ us, u.oneCell' = true) (hnone : ad = none → n = 0)
  (hc : ∀ x, ad = some x → ∀ j u, us[j]? = some u → w.cell? (x.add j) = some u) (had : ∀ x, ad = some x → 0 < n → x.block < w.heap.size) : eX Go.Proofs.Tryz.prog 135 73 3 ad n cap w us := by
 have heq : ∀ w1, (binOp .eql 53 (.slice ad n cap) (.slice none 0 0)).run Go.Proofs.Tryz.prog w1 = .ok (.bool ad.isNone) w1 := fun w1 => run_eql_slice_nil w1 53 73 ad n cap Go.Proofs.Tryz.underlying53
 cases ad with
 | none =>
  obtain rfl := hnone rfl
  obtain rfl : us = [] := List.eq_nil_of_length_eq_zero (by simpa using hl)
  clear hl hle hone hnone hc had
  unfold eX
  go_enter Go.Proofs.Tryz.func135, Go.Proofs.Tryz.ntmps135
  go_wp2
  go_ret
  exact ⟨_, rfl, World.dW _ _ _ _, RowKit.Below.refl _ _, fun k hk => by cases hk⟩
 | some ad =>
  have hc := hc ad rfl
  have hcell : ∀ j u, us[j]? = some u → (w.alloc (.cells #[] 73)).cell? (ad.add j) = some u := fun j u h => by
   have hb : ∀ j, (ad.add j).block = ad.block := fun j => by unfold Addr.add; split <;> rfl
   have hp : 0 < n := by
    have := (List.getElem?_eq_some_iff.1 h).1
    rw [hl] at this
    exact Nat.pos_of_ne_zero fun h0 => by subst h0; simp at this
   rw [← hc j u h]
   exact World.cell?_of_block (RowKit.Below.heap_alloc w _ _ (by rw [hb]; exact had ad rfl hp))
  have hown : (w.alloc (.cells #[] 73)).ownsRow 0 73 3 (.slice (some ⟨w.heap.size, 0, none⟩) 0 0) 0 [] := by
   refine ⟨rfl, .inr ⟨w.heap.size, 0, #[], rfl, by omega, ?_, by omega, by simp only [maxLen]; omega, rfl, rfl⟩⟩
   show (w.heap.push _)[w.heap.size]? = _
   rw [Array.getElem?_push, if_pos rfl]
  obtain ⟨i0, hi, hz0, hz1, hz2⟩ : ∃ i0, Go.Proofs.Tryz.prog.info? 73 = some i0 ∧ i0.zero = some (.agg #[.int .i64 0, .int .i64 0, .string ByteArray.empty]) ∧ i0.size = 3 ∧ i0.bytes = 32 := ⟨Go.Proofs.Tryz.t73, by kernel_rfl, by kernel_rfl, by kernel_rfl, by kernel_rfl⟩
  clear hc had hnone
  unfold eX
  go_enter Go.Proofs.Tryz.func135, Go.Proofs.Tryz.ntmps135
  go_wp2_with (first | (at_builtin; refine wpList_append_own_at _ rfl _ _ 53 rfl 0 73 i0 (.agg #[.int .i64 0, .int .i64 0, .string ByteArray.empty]) 3 32 Go.Proofs.Tryz.underlying53 hi hz0 hz1 hz2 rfl (by decide) _ _ _ rfl hown ad n cap us rfl hl hcell hone (by simp only [maxLen]; omega) (by omega) (by omega) ?_; intro v' w1 hown' hgrow hnil hloc))
  obtain ⟨h1, h2, h3⟩ := r8 hown' hgrow hloc
  clear hown' hgrow hnil hloc hown hcell hi hz0 hz1 hz2
  go_ret
  exact ⟨_, rfl, h1, h2, h3⟩
end Go.Px
