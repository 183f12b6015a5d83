/- The claim on relations. -/
import Derived.Test.YtbdlklncblklnaaGreatM5
import Derived.Test.YtbdlklncblklnaaGreatR2
import Derived.Test.YtbdlklncblklnaaGreatRows
import Derived.ProofKit
import Derived.OpenShut
import Derived.ChangeOld
import Derived.Below
set_option linter.unusedVariables false

namespace Go.Px.Seat
open Go Go.ChangeShapes Go.WideShapes Go.ChangeAt Go.RowKit
set_option linter.unusedVariables false
/-- what a row of numbers that came in is told by -/
def IsRow (k : IntKind) (w : World) (a : Option Addr) (len cap : Nat) (zs : List Int) : Prop :=
  (a = none ∧ len = 0 ∧ cap = 0 ∧ zs = []) ∨
  ∃ x, a = some x ∧ len ≤ cap ∧ zs.length = cap ∧ (∀ i, i < zs.length → w.cell? (x.add i) = some (.int k (zs.getD i 0))) ∧ ∀ n ∈ zs, (Lit.int k n).wf = true
theorem chop_ints {h : Array Obj} {S : Nat → Prop} {k : IntKind} : ∀ l : List Int, Chop (Rep h S (.int k)) l (l.map (Value.int k))
  | [] => rfl
  | x :: l => ⟨[.int k x], l.map (Value.int k), rfl, rfl, chop_ints l⟩
theorem rep_bytes {w : World} {S : Nat → Prop} {a : Option Addr} {len cap : Nat} {zs : List Int} (hS : ∀ k, k < w.heap.size → S k) (h : IsRow .u8 w a len cap zs) :
    ∃ l : List Int, Rep w.heap S (.slice (.int .u8)) [.slice a len cap] l ∧ byt l := by
  rcases h with ⟨rfl, rfl, rfl, rfl⟩ | ⟨x, rfl, hl, hz, hcell, hw⟩
  · exact ⟨[], ⟨none, 0, 0, rfl, rfl, Nat.le_refl _, .inl rfl⟩, fun x hx => by cases hx⟩
  · by_cases h0 : len = 0
    · subst h0
      exact ⟨[], ⟨_, 0, cap, rfl, rfl, Nat.zero_le _, .inl rfl⟩, fun x hx => by cases hx⟩
    · obtain ⟨b, off, spot⟩ := x
      have hc := hcell 0 (by omega)
      have hspot : spot = none := by simpa [Addr.add] using World.cell?_spot hc
      subst hspot
      have hb : ∃ arr et fr, w.heap[b]? = some (.cells arr et fr) := by
        unfold World.cell? at hc
        have hbl : ((⟨b, off, none⟩ : Addr).add 0).block = b := by simp [Addr.add]
        rw [hbl] at hc
        split at hc
        · rename_i arr et fr harr
          exact ⟨_, _, _, harr⟩
        · cases hc
      obtain ⟨arr, et, fr, harr⟩ := hb
      have hget : ∀ i, i < zs.length → arr[off + i]? = some (.int .u8 (zs.getD i 0)) := fun i hi => by
        have := hcell i hi
        rw [add_plain] at this
        simpa [World.cell?, harr] using this
      have hlt : b < w.heap.size := (Array.getElem?_eq_some_iff.1 harr).1
      have hfit : off + len ≤ arr.size := by
        have := (Array.getElem?_eq_some_iff.1 (hget (len - 1) (by omega))).1
        omega
      have hlen : (zs.take len).length = len := by rw [List.length_take]; omega
      refine ⟨zs.take len, ⟨_, len, cap, rfl, hlen, hl, .inr ⟨b, off, arr, et, fr, rfl, hS _ hlt, harr, by simpa [Ty.size] using hfit, ?_⟩⟩, fun x hx => ?_⟩
      · have : (arr.toList.drop off).take (len * Ty.size (.int .u8)) = (zs.take len).map (Value.int .u8) := by
          apply List.ext_getElem?
          intro i
          simp only [Ty.size, Nat.mul_one, List.getElem?_take, List.getElem?_map, List.getElem?_drop]
          by_cases hi : i < len
          · rw [if_pos hi, if_pos hi]
            have := hget i (by omega)
            rw [Array.getElem?_toList, this]
            simp [List.getD, show i < zs.length by omega]
          · rw [if_neg hi, if_neg hi]; rfl
        rw [this]
        exact chop_ints _
      · have := hw x (List.mem_of_mem_take hx)
        simp [Lit.wf, IntKind.min, IntKind.max, IntKind.signed, IntKind.bits] at this
        omega
theorem walk_FnRel (a0 : Option Addr) (len0 cap0 : Nat) (z0 : List Int) (a1 : Option Addr) (len1 cap1 : Nat) (z1 : List Int) (w : World) (w0 : IsRow .u8 w a0 len0 cap0 z0) (w1 : IsRow .u8 w a1 len1 cap1 z1) :
    Calls Go.Proofs.Tryz.prog 3 #[.slice a0 len0 cap0, .slice a1 len1 cap1] w fun e w' => e = .returned (.bool true) ∧ Below w.heap.size w w' := by
  have hS : ∀ k, k < w.heap.size → S2 (fun k => k < w.heap.size) Nope false k := fun k hk => .inr ⟨rfl, hk⟩
  obtain ⟨l, hl, bl⟩ := rep_bytes hS w0
  obtain ⟨m, hm, bm⟩ := rep_bytes hS w1
  obtain ⟨N, hN⟩ := k_FnRel
  have hrun := hN N (Nat.le_refl _) l m bl bm
  have hok := (Prog.sound seat_OK N 3 [] sg_w_FnRel (by show look S 3 ≠ none; rw [show look S 3 = some [([], sg_w_FnRel)] from rfl]; simp)).1
  have hc := hok w (fun k => k < w.heap.size) [.slice a0 len0 cap0, .slice a1 len1 cap1] [] [] (l, (m, ())) (true, ()) hrun
    ⟨⟨_, _, [], [], [], [], rfl, rfl, rfl, ⟨rfl, rfl, rfl, _, [], rfl, hl, rfl, rfl⟩, _, _, [], [], [], [], rfl, rfl, rfl, ⟨rfl, rfl, rfl, _, [], rfl, hm, rfl, rfl⟩, rfl, rfl, rfl⟩, List.nodup_nil, fun k hk => ⟨hk, by simp⟩⟩
  refine hc.mono fun e w' ⟨v, SF, us, b1, b2, he, H⟩ => ?_
  refine ⟨?_, H.os, H.tape, H.output, H.size, fun k hk => H.old k hk (by simp)⟩
  obtain ⟨v1, r, c1, c2, rfl, _, hone, rfl, _⟩ := H.outs
  rcases hone with ⟨h, _⟩ | ⟨_, us', ⟨v2, r2, hus, hrep, hr2⟩, hval⟩
  · cases h
  · obtain ⟨hr2, _⟩ := hr2
    have h2 : [v2] = [Value.bool true] := hrep
    injection h2 with h2 _
    rw [he, H.val, hval, hus, hr2, h2]
    rfl
end Go.Px.Seat
