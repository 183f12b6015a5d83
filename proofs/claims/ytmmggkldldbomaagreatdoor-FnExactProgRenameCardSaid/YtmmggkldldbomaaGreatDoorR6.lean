/- slices.Sort and slices.Compact of a row of texts in an arena. Seat G. -/
import Derived.Test.YtmmggkldldbomaaGreatDoorR3
import Derived.Test.YtmmggkldldbomaaGreatDoorM1
import Derived.Test.YtmmggkldldbomaaGreatDoorR5
set_option linter.unusedVariables false
namespace Go.Px.Seat
open Go Pt
theorem Bo {α : Type} [Inhabited α] (enc : α → Value) {w : World} {g off : Nat} {et : TypeId} {cur : Array Value} {d : Array α} (hg : w.heap[g]? = some (.cells cur et (0, 0))) (hfit : off + d.size ≤ cur.size) :
  ∃ cur' : Array Value, (Sort.putRow enc w g off d).heap[g]? = some (.cells cur' et (0, 0)) ∧ cur'.size = cur.size ∧ (cur'.toList.drop off).take d.size = d.toList.map enc := by
 refine ⟨Sort.putCells enc off d cur, ?_, by simp [Sort.putCells], ?_⟩
 ·unfold Sort.putRow Sort.mapBlock
  simp only [Array.getElem?_modify, if_true, hg, Option.map_some, Sort.onCells]
 ·apply List.ext_getElem?
  intro i
  simp only [List.getElem?_take, List.getElem?_drop, List.getElem?_map, Array.getElem?_toList]
  by_cases hi : i < d.size
  ·rw [if_pos hi]
   have h1 : off + i < cur.size := by omega
   rw [Array.getElem?_eq_getElem hi]
   simp only [Sort.putCells, Array.getElem?_mapIdx, Array.getElem?_eq_getElem h1, Option.map_some]
   rw [if_pos ⟨by omega, by omega⟩, Nat.add_sub_cancel_left, getElem!_pos d i hi]
  ·rw [if_neg hi, Array.getElem?_eq_none (by omega)]
   rfl
theorem Bp {α : Type} [Inhabited α] (enc : α → Value) {w : World} {g off : Nat} {d : Array α} (k : Nat) (h : k ≠ g) : (Sort.putRow enc w g off d).heap[k]? = w.heap[k]? := by
 unfold Sort.putRow Sort.mapBlock
 simp only [Array.getElem?_modify, if_neg (Ne.symm h)]
theorem gR {h : Array Obj} {S : Loc → Prop} : ∀ {l : List ByteArray} {vs : List Value}, b7 (bm h S .str) l vs ↔ vs = l.map Value.string
 | [], _ => Iff.rfl
 | x :: l, vs => by
  constructor
  ·rintro ⟨c, r, e, h1, h2⟩
   have h1' : c = [Value.string x] := h1
   rw [e, h1', gR.1 h2]
   rfl
  ·rintro rfl
   exact ⟨[.string x], l.map Value.string, rfl, rfl, gR.2 rfl⟩
theorem Bq (l : List (List UInt8)) : l.map Go.Proofs.encStr = (ie l).map Value.string := by
 unfold ie
 rw [List.map_map]
 rfl
theorem Jb (l : List ByteArray) : (bytesOf l).map Go.Proofs.encStr = l.map Value.string := by
 unfold bytesOf
 rw [List.map_map]
 refine List.map_congr_left fun s _ => ?_
 show Value.string ⟨s.data.toList.toArray⟩ = Value.string s
 simp
theorem KW {w : World} {SA : Nat → Prop} {N0 : Loc → Prop} {S : Mem ByteArray} {x : Hd} {v : Value} (M : dy w.heap SA N0 .str 9 S) (hrep : bm w.heap (S2 SA N0 false) (.aI 9 .str) [v] x) (hl : fI S x.1 = true) (hb : x.2.1 = 0) (hn : x.2.2 = (ak S x.1).length) :
  (v = .slice none 0 0 ∧ ak S x.1 = []) ∨ ∃ g C c cur, v = .slice (some ⟨g, C.1, none⟩) (ak S x.1).length c ∧ N0 (.m 9 x.1 g C) ∧ w.heap[g]? = some (.cells cur 9 (0, 0)) ∧ (ak S x.1).length ≤ c ∧ c ≤ C.2 ∧ C.2 ≤ maxLen ∧ C.1 + C.2 ≤ cur.size ∧ (cur.toList.drop C.1).take (ak S x.1).length = (ak S x.1).map Value.string := by
 obtain ⟨a, n, c, e2, hn2, hnc, hrow⟩ := hrep
 cases e2
 rcases hrow with ⟨hz, hz', hz2⟩ | ⟨g, C, rfl, hle, hS⟩
 ·left
  rw [hz2 hb, hz, hz']
  exact ⟨rfl, List.eq_nil_of_length_eq_zero (by omega)⟩
 ·right
  have hS : N0 (.m 9 x.1 g C) := hS.elim id fun h => h.2.elim
  obtain ⟨cur, hcur, h1, h2, h3, hch⟩ := M.hit hS hl
  refine ⟨g, C, c, cur, ?_, hS, hcur, by omega, by omega, h2, by simpa [Ty.size] using h3, ?_⟩
  ·rw [hb, Nat.zero_mul, Nat.add_zero, ← hn, hn2]
  ·have := gR.1 hch
   rw [show (Ty.str).size = 1 from rfl, Nat.mul_one] at this
   exact this
theorem EY {w : World} {g off : Nat} {cur : Array Value} {l : List ByteArray} (hg : w.heap[g]? = some (.cells cur 9 (0, 0))) (hc : (cur.toList.drop off).take l.length = l.map Value.string) : Sort.Holds Go.Proofs.encStr w g off (bytesOf l).toArray := by
 intro j hj
 have hj' : j < l.length := by simpa [bytesOf] using hj
 have h1 : (l.map Value.string)[j]? = some (Value.string l[j]) := by simp [hj']
 rw [← hc] at h1
 have h2 := iJ hg j _ h1
 rw [Addr.add_mid] at h2
 refine ⟨?_, ?_⟩
 ·rw [h2]
  have h3 := Jb l
  have h4 : (bytesOf l).toArray[j]! = (bytesOf l)[j]'(by simpa [bytesOf] using hj') := by
   rw [getElem!_pos _ j (by simpa [bytesOf] using hj')]
   simp
  rw [h4]
  have h5 : ((bytesOf l).map Go.Proofs.encStr)[j]? = some (Value.string l[j]) := by rw [h3]; simp [hj']
  rw [List.getElem?_map, List.getElem?_eq_getElem (by simpa [bytesOf] using hj'), Option.map_some] at h5
  exact h5.symm
 ·unfold World.frozen?
  simp only [hg]
  simp
theorem vu {α : Type} {bs : List (Option (List α))} {k : Nat} {y : List α} (hl : fI bs k = true) {i : Nat} : (∃ xs, (eY bs (some y) k)[i]? = some (some xs)) ↔ ∃ xs, bs[i]? = some (some xs) := by
 obtain ⟨j, rfl, hj⟩ := hE hl
 have hjl : j < bs.length := (List.getElem?_eq_some_iff.1 hj).1
 simp only [eY, List.getElem?_set]
 by_cases h : j = i
 ·subst h
  exact ⟨fun _ => ⟨_, hj⟩, fun _ => ⟨y, by simp [hjl]⟩⟩
 ·simp [h]
theorem Ni (G : gl) : bU Go.Proofs.Tryz.prog G 161 ⟨aH, xX⟩ := by
 intro w SA N0 vs ps bs mv p q hq hin
 obtain ⟨mA, mB, rfl, ⟨v, r, p1, p2, b1, b2, m1, m2, rfl, rfl, rfl, rfl, ⟨rfl, rfl, v', r', e1, hrep, rfl, rfl⟩, rfl, rfl, rfl, rfl⟩, c1, c2, rfl, M, hbl, hc2⟩ := hin.args
 cases e1
 change c2 = [] at hc2
 subst hc2
 obtain ⟨S, x, u⟩ := p
 cases u
 change Mem ByteArray at S
 change Hd at x
 change Ec S x = some q at hq
 unfold Ec at hq
 split at hq
 ·rename_i hc
  obtain ⟨hl, hb, hn, hle⟩ := hc
  cases hq
  change dy w.heap SA N0 .str 9 S at M
  change gG N0 .str 9 S c1 at hbl
  change bm w.heap (S2 SA N0 false) (.aI 9 .str) [v] x at hrep
  have hnd : c1.Nodup := by simpa using hin.nodup
  have hlt : ∀ k ∈ c1, k < w.heap.size := fun k hk => lZ (show cO w SA N0 [(9, Ty.str)] (S, ()) (c1 ++ []) from ⟨c1, [], rfl, M, hbl, rfl⟩) k (by simpa using hk)
  have hblk : gG N0 .str 9 (eY S (some (fW (ak S x.1))) x.1) c1 := ⟨hbl.1, fun g => (hbl.2 g).trans ⟨fun ⟨k, xs, C, h1, h2⟩ => by
    obtain ⟨ys, h3⟩ := (vu (y := fW (ak S x.1)) hl).2 ⟨xs, h1⟩
    exact ⟨k, ys, C, h3, h2⟩, fun ⟨k, xs, C, h1, h2⟩ => by
    obtain ⟨ys, h3⟩ := (vu (y := fW (ak S x.1)) hl).1 ⟨xs, h1⟩
    exact ⟨k, ys, C, h3, h2⟩⟩⟩
  have fin : ∀ {e : Ending} {w' : World}, e = .returned (.tuple #[]) → w'.os = w.os → w'.tape = w.tape → w'.output = w.output → w.heap.size ≤ w'.heap.size → (∀ k, k < w.heap.size → k ∉ c1 → w'.heap[k]? = w.heap[k]?) →
    dy w'.heap SA N0 .str 9 (eY S (some (fW (ak S x.1))) x.1) →
    ∃ v2 SF us b1 b2, e = .returned v2 ∧ sy w SA N0 ([] ++ []) ([] ++ [] ++ (c1 ++ [])) ([] ++ []) aH ((eY S (some (fW (ak S x.1))) x.1, ()) : Mem ByteArray × Unit) v2 w' SF us b1 b2 := fun he h1 h2 h3 h4 h5 h6 =>
   ⟨_, N0, [], c1 ++ [], [], he, h1, h2, h3, h4, fun k hk hk2 => h5 k hk (fun h => hk2 (by simpa using h)), fun k hk => (hin.n0 k hk).elim, fun l h => h, ⟨[], c1 ++ [], rfl, ⟨rfl, rfl⟩, c1, [], rfl, h6, hblk, rfl⟩, rfl, ⟨rfl, rfl⟩, fun k hk => ⟨.inr (by simpa using hk), Nat.lt_of_lt_of_le (hlt k (by simpa using hk)) h4⟩, fun k _ => hin.n0 k, fun k hk => (by cases hk), by simpa using hnd⟩
  rcases KW M hrep hl hb hn with ⟨rfl, h0⟩ | ⟨g, C, c, cur, rfl, hS, hcur, g1, g2, g3, g4, g5⟩
  ·refine (Go.Proofs.Tryz.slices_Sort_string_none none 0 w).mono fun e w' ⟨he, hw⟩ => ?_
   subst hw
   refine fin he rfl rfl rfl (Nat.le_refl _) (fun _ _ _ => rfl) ?_
   have : eY S (some (fW (ak S x.1))) x.1 = S := by
    obtain ⟨j, hj, hjb⟩ := hE hl
    rw [h0, hj]
    have hs : fW [] = [] := by simp [fW, bytesOf, ie]
    rw [hs]
    rw [hj, ← hj, h0] at hjb
    simp only [eY]
    apply List.ext_getElem?
    intro i
    rw [List.getElem?_set]
    split
    ·rename_i hji
     subst hji
     rw [hjb]
     have := (List.getElem?_eq_some_iff.1 hjb).1
     simp [this]
    ·rfl
   exact Eq.mp (congrArg (fun z : Mem ByteArray => dy w'.heap SA N0 .str 9 z) this.symm) M
  ·have hss : (bytesOf (ak S x.1)).length = (ak S x.1).length := by simp [bytesOf]
   have hg : g < w.heap.size := (Array.getElem?_eq_some_iff.1 hcur).1
   have hgc : g ∈ c1 := by
    obtain ⟨j, hj, hjb⟩ := hE hl
    exact (hbl.2 g).2 ⟨j, _, C, hjb, hj ▸ hS⟩
   have hcall := Go.Proofs.Tryz.slices_Sort_string g C.1 c (bytesOf (ak S x.1)) w (EY hcur g5) hg (by omega)
   rw [hss] at hcall
   refine hcall.mono fun e w' ⟨he, n, os, hw⟩ => ?_
   subst hw
   obtain ⟨d, hd⟩ : ∃ d, d = ((bytesOf (ak S x.1)).mergeSort fun x y => decide (x ≤ y)).toArray := ⟨_, rfl⟩
   rw [← hd]
   have hds : d.size = (ak S x.1).length := by rw [hd]; simp [hss]
   obtain ⟨cur', q1, q2, q3⟩ := Bo Go.Proofs.encStr (w := Sort.ahead w n) (off := C.1) (d := d) hcur (by omega)
   have hap : ∀ k, k < w.heap.size → (Sort.grow (Sort.putRow Go.Proofs.encStr (Sort.ahead w n) g C.1 d) os).heap[k]? = (Sort.putRow Go.Proofs.encStr (Sort.ahead w n) g C.1 d).heap[k]? := fun k hk => by
    show ((Sort.putRow Go.Proofs.encStr (Sort.ahead w n) g C.1 d).heap ++ os)[k]? = _
    rw [Array.getElem?_append_left]
    rw [Sort.size_putRow]
    exact hk
   have hoth : ∀ k, k < w.heap.size → k ≠ g → (Sort.grow (Sort.putRow Go.Proofs.encStr (Sort.ahead w n) g C.1 d) os).heap[k]? = w.heap[k]? := fun k hk hkg => (hap k hk).trans (Bp _ k hkg)
   have hlo : ∀ k, SA k ∨ N0 (Loc.b k) → k < w.heap.size ∧ k ≠ g := fun k hk => by
    rcases hk with hk | hk
    ·exact ⟨(hin.sa k hk).1, fun h => (hin.sa k hk).2 (by rw [h]; simpa using hgc)⟩
    ·exact (hin.n0 k hk).elim
   refine fin he rfl rfl rfl ?_ (fun k hk hk2 => hoth k hk fun h => hk2 (h ▸ hgc)) ?_
   ·show w.heap.size ≤ ((Sort.putRow Go.Proofs.encStr (Sort.ahead w n) g C.1 d).heap ++ os).size
    rw [Array.size_append, Sort.size_putRow]
    exact Nat.le_add_right _ _
   ·have hsl : (fW (ak S x.1)).length = (ak S x.1).length := by simp [fW, ie, bytesOf]
    have hM : dy (Sort.grow (Sort.putRow Go.Proofs.encStr (Sort.ahead w n) g C.1 d) os).heap SA N0 .str 9 (eY S (some (fW (ak S x.1))) x.1) := by
     obtain ⟨j, rfl2, hjb⟩ := hE hl
     refine ⟨fun k' g' C' q => ⟨(M.E3 k' g' C' q).1, Nat.le_trans (M.E3 k' g' C' q).2 (Nat.le_of_eq xT.symm)⟩, M.one, fun i xs hi => ?_, fun i i' xs xs' g1' C1 C2 a1 a2 a3 a4 => ?_, M.sl⟩
     ·rcases vK hi with ⟨h4, h5⟩ | ⟨h4, h5⟩
      ·cases h5
       refine .inr ⟨g, C, cur', by rw [← h4]; exact hS, (hap g hg).trans q1, (show List.length (α := ByteArray) (fW (ak S x.1)) ≤ C.2 from by omega), g3, (show C.1 + C.2 * 1 ≤ cur'.size from by omega), ?_⟩
       refine gR.2 ?_
       show (cur'.toList.drop C.1).take (List.length (α := ByteArray) (fW (ak S x.1)) * 1) = (fW (ak S x.1)).map Value.string
       rw [Nat.mul_one, hsl, ← hds, q3, hd]
       exact Bq _
      ·rcases M.HQ i xs h5 with h6 | ⟨g', C', cur2, a1, a2, a3, a4, a5, a6⟩
       ·exact .inl h6
       ·have hne : g' ≠ g := fun h => h4 (by
         rw [rfl2]
         exact congrArg (· + 1) (M.inj j i _ xs g C C' hjb h5 (rfl2 ▸ hS) (h ▸ a1)))
        exact .inr ⟨g', C', cur2, a1, (hoth g' (Array.getElem?_eq_some_iff.1 a2).1 hne).trans a2, a3, a4, a5, gR.2 (gR.1 a6)⟩
     ·obtain ⟨y1, p1⟩ := (vu hl).1 ⟨xs, a1⟩
      obtain ⟨y2, p2⟩ := (vu hl).1 ⟨xs', a2⟩
      exact M.inj _ _ _ _ _ _ _ p1 p2 a3 a4
    exact hM
 ·cases hq
theorem oQ {α : Type} {bs : List (Option (List α))} {k i : Nat} {xs : List α} (h : (eY bs none k)[i]? = some (some xs)) : k ≠ i + 1 ∧ bs[i]? = some (some xs) := by
 rcases vK h with ⟨_, h⟩ | h
 ·cases h
 ·exact h
theorem Nj (G : gl) : bU Go.Proofs.Tryz.prog G 162 ⟨az, xY⟩ := by
 intro w SA N0 vs ps bs mv p q hq hin
 obtain ⟨mA, mB, rfl, ⟨v, r, p1, p2, b1, b2, m1, m2, rfl, rfl, rfl, rfl, ⟨rfl, rfl, v', r', e1, hrep, rfl, rfl⟩, rfl, rfl, rfl, rfl⟩, c1, c2, rfl, M, hbl, hc2⟩ := hin.args
 cases e1
 change c2 = [] at hc2
 subst hc2
 obtain ⟨S, x, u⟩ := p
 cases u
 change Mem ByteArray at S
 change Hd at x
 change Ed S x = some q at hq
 unfold Ed at hq
 split at hq
 ·rename_i hc
  obtain ⟨hl, hb, hn, hle⟩ := hc
  cases hq
  change dy w.heap SA N0 .str 9 S at M
  change gG N0 .str 9 S c1 at hbl
  change bm w.heap (S2 SA N0 false) (.aI 9 .str) [v] x at hrep
  have hnd : c1.Nodup := by simpa using hin.nodup
  have hlt : ∀ k ∈ c1, k < w.heap.size := fun k hk => lZ (show cO w SA N0 [(9, Ty.str)] (S, ()) (c1 ++ []) from ⟨c1, [], rfl, M, hbl, rfl⟩) k (by simpa using hk)
  obtain ⟨Q, hQ⟩ : ∃ Q : Nat → Prop, Q = fun g => ∃ (i : Nat) (xs : List ByteArray) (C : Nat × Nat), (eY S none x.1)[i]? = some (some xs) ∧ N0 (.m 9 (i + 1) g C) := ⟨_, rfl⟩
  obtain ⟨b3, hb3⟩ : ∃ b3 : List Nat, b3.Nodup ∧ ∀ g, g ∈ b3 ↔ g ∈ c1 ∧ Q g := by
   classical
   exact ⟨c1.filter fun g => decide (Q g), hnd.filter _, fun g => by simp [List.mem_filter]⟩
  have hblk : gG N0 .str 9 (eY S none x.1) b3 := ⟨hb3.1, fun g => (hb3.2 g).trans ⟨fun h => by rw [hQ] at h; exact h.2, fun h => ⟨(hbl.2 g).2 (let ⟨i, xs, C, h1, h2⟩ := h; ⟨i, xs, C, (oQ h1).2, h2⟩), by rw [hQ]; exact h⟩⟩⟩
  have fin : ∀ {e : Ending} {w' : World} {v2 : Value}, e = .returned v2 → w'.os = w.os → w'.tape = w.tape → w'.output = w.output → w.heap.size ≤ w'.heap.size → (∀ k, k < w.heap.size → k ∉ c1 → w'.heap[k]? = w.heap[k]?) →
    dy w'.heap SA N0 .str 9 (eY S none x.1) → w'.fc 0 9 1 v2 (k8 (ak S x.1)).length ((k8 (ak S x.1)).map Value.string) → (∀ k ∈ (bo v2).toList, k ∈ c1 ∧ k ∉ b3) →
    ∃ v2 SF us b1 b2, e = .returned v2 ∧ sy w SA N0 ([] ++ []) ([] ++ [] ++ (c1 ++ [])) ([] ++ []) az ((eY S none x.1, (k8 (ak S x.1), ())) : Mem ByteArray × (List ByteArray × Unit)) v2 w' SF us b1 b2 := fun {e w' v2} he h1 h2 h3 h4 h5 h6 h7 h8 =>
   ⟨v2, N0, [v2], (bo v2).toList ++ (b3 ++ []), [], he, h1, h2, h3, h4, fun k hk hk2 => h5 k hk (fun h => hk2 (by simpa using h)), fun k hk => (hin.n0 k hk).elim, fun l h => h,
    ⟨(bo v2).toList, b3 ++ [], rfl, ⟨v2, [], (bo v2).toList, [], rfl, by simp, .inr ⟨(fun h => by cases h), [v2], ⟨v2, [], _, [], rfl, by simp, h7, gR.2 rfl, rfl, rfl⟩, rfl⟩, rfl, rfl⟩, b3, [], rfl, h6, hblk, rfl⟩, rfl, ⟨rfl, rfl⟩,
    fun k hk => by
     have hk1 : k ∈ c1 := (List.mem_append.1 hk).elim (fun h => (h8 k h).1) fun h => ((hb3.2 k).1 (by simpa using h)).1
     exact ⟨.inr (by simpa using hk1), Nat.lt_of_lt_of_le (hlt k hk1) h4⟩, fun k _ => hin.n0 k, fun k hk => (by cases hk), by
     rw [List.append_nil, List.append_nil]
     refine List.nodup_append.2 ⟨by cases bo v2 <;> simp, hb3.1, fun a ha b hb hab => ?_⟩
     subst hab
     exact (h8 a ha).2 hb⟩
  have hMr : ∀ {w' : World}, (∀ i xs g C, (eY S none x.1)[i]? = some (some xs) → N0 (.m 9 (i + 1) g C) → w'.heap[g]? = w.heap[g]?) → dy w'.heap SA N0 .str 9 (eY S none x.1) := fun {w'} hh => by
   refine ⟨fun k' g' C' q => ⟨(M.E3 k' g' C' q).1, Nat.le_trans (M.E3 k' g' C' q).2 (Nat.le_of_eq xT.symm)⟩, M.one, fun i xs hi => ?_, fun i i' xs xs' g1' C1 C2 a1 a2 a3 a4 => M.inj _ _ _ _ _ _ _ (oQ a1).2 (oQ a2).2 a3 a4, M.sl⟩
   rcases M.HQ i xs (oQ hi).2 with h6 | ⟨g', C', cur2, a1, a2, a3, a4, a5, a6⟩
   ·exact .inl h6
   ·exact .inr ⟨g', C', cur2, a1, (hh i xs g' C' hi a1).trans a2, a3, a4, a5, gR.2 (gR.1 a6)⟩
  rcases KW M hrep hl hb hn with ⟨rfl, h0⟩ | ⟨g, C, c, cur, rfl, hS, hcur, g1, g2, g3, g4, g5⟩
  ·refine (Go.Proofs.Tryz.slices_Compact_string_empty none 0 w).mono fun e w' ⟨he, hw⟩ => ?_
   subst hw
   have hc0 : k8 (ak S x.1) = [] := by
    rw [h0]
    have := zR (bytesOf [])
    have h1 : Lib.compact (bytesOf []) = [] := List.eq_nil_of_length_eq_zero (by simpa [bytesOf] using this)
    simp [k8, h1, ie]
   refine fin he rfl rfl rfl (Nat.le_refl _) (fun _ _ _ => rfl) (hMr fun _ _ _ _ _ _ => rfl) ?_ (fun k hk => by cases hk)
   rw [hc0]
   exact World.dW _ _ _ _
  ·have hss : (bytesOf (ak S x.1)).length = (ak S x.1).length := by simp [bytesOf]
   have hg : g < w.heap.size := (Array.getElem?_eq_some_iff.1 hcur).1
   obtain ⟨j, hj, hjb⟩ := hE hl
   have hgc : g ∈ c1 := (hbl.2 g).2 ⟨j, _, C, hjb, hj ▸ hS⟩
   have hcall := Go.Proofs.Tryz.slices_Compact_string g C.1 c (bytesOf (ak S x.1)) w (EY hcur g5) (by omega) (by omega)
   rw [hss] at hcall
   refine hcall.mono fun e w' ⟨he, n, hw⟩ => ?_
   subst hw
   have hcl := zR (bytesOf (ak S x.1))
   rw [hss] at hcl
   obtain ⟨d, hd⟩ : ∃ d, d = (Lib.compact (bytesOf (ak S x.1)) ++ List.replicate ((ak S x.1).length - (Lib.compact (bytesOf (ak S x.1))).length) []).toArray := ⟨_, rfl⟩
   rw [← hd]
   have hds : d.size = (ak S x.1).length := by rw [hd]; simp; omega
   obtain ⟨cur', q1, q2, q3⟩ := Bo Go.Proofs.encStr (w := Sort.ahead w n) (off := C.1) (d := d) hcur (by omega)
   have hoth : ∀ k, k ≠ g → (Sort.putRow Go.Proofs.encStr (Sort.ahead w n) g C.1 d).heap[k]? = w.heap[k]? := fun k hkg => Bp _ k hkg
   have hcb : (k8 (ak S x.1)).length = (Lib.compact (bytesOf (ak S x.1))).length := by simp [k8, ie]
   refine fin he rfl rfl rfl (Nat.le_of_eq (Sort.size_putRow ..).symm) (fun k hk hk2 => hoth k fun h => hk2 (h ▸ hgc)) (hMr fun i xs g' C' hi hS' => hoth g' fun h => ?_) ?_ (fun k hk => ?_)
   ·obtain ⟨h1, h2⟩ := oQ hi
    exact h1 (by rw [hj]; exact congrArg (· + 1) (M.inj j i _ xs g C C' hjb h2 (hj ▸ hS) (h ▸ hS')))
   ·refine ⟨by simp, .inr ⟨g, C.1, c, cur', by rw [hcb], Nat.zero_le _, q1, by omega, by omega, by omega, ?_⟩⟩
    have h7 : (cur'.toList.drop C.1).take (k8 (ak S x.1)).length = ((cur'.toList.drop C.1).take d.size).take (k8 (ak S x.1)).length := by
     rw [List.take_take, Nat.min_eq_left (by omega)]
    rw [Nat.mul_one, h7, q3, hd, List.toList_toArray, List.map_append, List.take_left' (by rw [List.length_map, hcb])]
    exact Bq _
   ·have hkg : k = g := by simpa [bo] using hk
    subst hkg
    refine ⟨hgc, fun h => ?_⟩
    have h1 := ((hb3.2 k).1 h).2
    rw [hQ] at h1
    obtain ⟨i, xs, C', h2, h3⟩ := h1
    obtain ⟨h4, h5⟩ := oQ h2
    exact h4 (by rw [hj]; exact congrArg (· + 1) (M.inj j i _ xs k C C' hjb h5 (hj ▸ hS) h3))
 ·cases hq
end Go.Px.Seat
