/- slices.Clone, bits.TrailingZeros64, strconv.Itoa, strings.Repeat, strings.TrimRight: the base of the calls. Seat ZD. -/
import Derived.Test.YtbdlklncblklnaaGreatDoorR1
import Derived.Test.YtbdlklncblklnaaGreatDoorM2
import Derived.Test.YtbdlklncblklnaaGreatDoorR2
import Derived.Lib.AppendIntMem
import Derived.Laws.Bits64b
import Derived.Lib.TrailingZeros
import Derived.WalkKit
import Derived.Lib.LazyBuf
import Derived.OwnWalk
import Derived.Maps.AppendAt
set_option linter.unusedVariables false

namespace Go.Px.Seat
open Go
set_option linter.unusedVariables false
set_option maxRecDepth 100000 in
theorem clone_walk {S : Nat → Prop} (ad : Addr) (n cap : Nat) (w : World) (l : List Int) (hn : l.length = n) (hpos : 0 < n) (hle : n ≤ 1099511627776) (us : List Value)
    (hch : Chop (Rep w.heap S (.int .i64)) l us) (hc : ∀ j u, us[j]? = some u → w.cell? (ad.add j) = some u) (had : ad.block < w.heap.size) :
    Calls Go.Proofs.Tryz.prog 196 #[.slice (some ad) n cap] w fun e w' => ∃ v, e = .returned v ∧ w'.ownsRow 0 3 1 v n us ∧ RowKit.Below w.heap.size w w' ∧ (∀ k, v.ownBlock = some k → w.heap.size ≤ k) := by
  have heq : ∀ w1, (binOp .eql 25 (.slice (some ad) n cap) (.slice none 0 0)).run Go.Proofs.Tryz.prog w1 = .ok (.bool false) w1 := fun w1 => run_eql_slice_nil w1 25 3 (some ad) n cap Go.Proofs.Tryz.underlying25
  have hl : us.length = n * 1 := by rw [← hn]; exact hch.len
  have hone : ∀ u ∈ us, u.oneCell' = true := hch.one
  have hown : (w.alloc (.cells #[] 3)).ownsRow 0 3 1 (.slice (some ⟨w.heap.size, 0, none⟩) 0 0) 0 [] := by
    refine ⟨rfl, .inr ⟨w.heap.size, 0, #[], rfl, by omega, ?_, by omega, by simp only [maxLen]; omega, rfl, rfl⟩⟩
    show (w.heap.push _)[w.heap.size]? = _
    rw [Array.getElem?_push, if_pos rfl]
  have hcell : ∀ j u, us[j]? = some u → (w.alloc (.cells #[] 3)).cell? (ad.add j) = some u := fun j u h => by
    have hb : ∀ j, (ad.add j).block = ad.block := fun j => by unfold Addr.add; split <;> rfl
    rw [← hc j u h]
    exact World.cell?_of_block (RowKit.Below.heap_alloc w _ _ (by rw [hb]; exact had))
  obtain ⟨i0, hi, hz0, hz1, hz2⟩ : ∃ i0, Go.Proofs.Tryz.prog.info? 3 = some i0 ∧ i0.zero = some (.int .i64 0) ∧ i0.size = 1 ∧ i0.bytes = 8 := ⟨Go.Proofs.Tryz.t3, by kernel_rfl, by kernel_rfl, by kernel_rfl, by kernel_rfl⟩
  clear hch hc
  go_enter Go.Proofs.Tryz.func196, Go.Proofs.Tryz.ntmps196
  go_wp2_with (first | (at_builtin; refine wpList_append_own_at _ rfl _ _ 25 rfl 0 3 i0 (.int .i64 0) 1 8 Go.Proofs.Tryz.underlying25 hi hz0 hz1 hz2 rfl (by decide) _ _ _ rfl hown ad n cap us rfl hl hcell hone (by simp only [maxLen]; omega) (by omega) (by omega) ?_; intro v' w1 hown' hgrow hnil hloc))
  have hown2 : w1.ownsRow 0 3 1 v' n us := by
    have := hown'
    rwa [Nat.zero_add] at this
  have hg2 : RowKit.Below w.heap.size w w1 := by
    have h0 : RowKit.Below w.heap.size w (w.alloc (.cells #[] 3)) := (RowKit.Below.refl _ _).alloc (Nat.le_refl _) _
    refine h0.grown hgrow (by show w.heap.size ≤ (w.heap.push _).size; simp) (fun k hk => ?_)
    have : some w.heap.size = some k := hk
    injection this with h
    omega
  have hloc2 : ∀ k, v'.ownBlock = some k → w.heap.size ≤ k := by
    intro k hk
    rcases hloc with h | h
    · rw [hk] at h
      have : some k = some w.heap.size := h
      injection this with h
      omega
    · rw [hk] at h
      have : some k = some (w.heap.push (.cells #[] 3)).size := h
      injection this with h
      rw [Array.size_push] at h
      omega
  clear hown' hgrow hnil hloc hown hcell hi hz0 hz1 hz2
  go_ret
  exact ⟨_, rfl, hown2, hg2, hloc2⟩
theorem clone_callOK (G : Glob) (key : List Nat) (s : Sig) : CallOK Go.Proofs.Tryz.prog G 196 ⟨s, B0 196 key s⟩ := by
  intro w SA vs ps bs' ms p q hq hin
  by_cases hs : s = sg_slices_Clone_int_int
  · subst hs
    have hq' : cloneRun p = some q := by rw [← B0_clone key]; exact hq
    obtain ⟨l, u⟩ := p
    cases u
    change List Int at l
    have hq2 : (if l = [] ∨ 1099511627776 < List.length (α := Int) l then none else some ((l, ()) : List Int × Unit)) = some q := hq'
    split at hq2
    · cases hq2
    · rename_i hl
      cases hq2
      have hne : l ≠ [] := fun h => hl (.inl h)
      have hle : List.length (α := Int) l ≤ 1099511627776 := Nat.le_of_not_lt fun h => hl (.inr h)
      obtain ⟨v, r, p1, p2, b1, b2, m1, m2, rfl, rfl, rfl, rfl, ⟨rfl, rfl, v', r', e1, hrep, rfl, rfl⟩, rfl, rfl, rfl, rfl⟩ := hin.args
      cases e1
      obtain ⟨a, n, c, e2, hn, hnc, hz⟩ := hrep
      cases e2
      change List.length (α := Int) l = n at hn
      have hpos : 0 < n := by rw [← hn]; exact List.length_pos_iff.2 hne
      rcases hz with hz | ⟨g, off, arr, et, fr, rfl, hg, harr, hfit, hch⟩
      · omega
      · have hlt : g < w.heap.size := by
          rcases Array.getElem?_eq_some_iff.1 harr with ⟨h, _⟩
          exact h
        refine (clone_walk (S := S2 SA Nope false) ⟨g, off, none⟩ n c w l hn hpos (by omega) _ hch (fun j u h => cut_cell harr j u h) hlt).mono fun e w' ⟨v, he, hown, hbel, hnew⟩ => ?_
        have hch' : Chop (Rep w'.heap (S2 SA Nope true) (.int .i64)) l ((arr.toList.drop off).take (n * Ty.size (.int .i64))) := hch.mono fun c x h => h
        obtain ⟨A, N, C, hv⟩ := owns_slice hown
        have hob : ownB v = v.ownBlock := ownB_slice ⟨A, N, C, hv⟩
        have hmem : ∀ k ∈ (ownB v).toList, w.heap.size ≤ k ∧ k < w'.heap.size := fun k hk => by
          have hk' : v.ownBlock = some k := by
            rw [← hob]
            cases h : ownB v with
            | none => rw [h] at hk; cases hk
            | some x =>
              rw [h] at hk
              simp at hk
              rw [hk]
          exact ⟨hnew k hk', (hown.lt k hk').2⟩
        have hnn : n = List.length (α := Int) l := hn.symm
        refine ⟨v, Nope, [v], (ownB v).toList, [], he, ⟨hbel.os, hbel.tape, hbel.output, hbel.size, fun k hk _ => hbel.block k hk, fun k hk => hk.elim, ?_, rfl, ⟨rfl, rfl⟩, fun k hk => ⟨.inl (hmem k hk).1, (hmem k hk).2⟩, fun k _ h => h, fun k hk => (by cases hk), ?_⟩⟩
        · refine ⟨v, [], (ownB v).toList, [], rfl, by simp, .inr ⟨by decide, [v], ⟨v, [], _, [], rfl, by simp, ?_, hch', rfl, rfl⟩, rfl⟩, rfl, rfl⟩
          subst hn
          exact hown
        · cases ownB v <;> simp
  · simp only [B0_clone_no hs] at hq
    cases hq
/-- the table in its variable -/
def TabAt (g : Nat) (w : World) : Prop := ∀ j, j < Lib.deBruijn64tab.length → w.cell? ⟨g, j, none⟩ = some (.int .u8 (Lib.deBruijn64tab.getD j 0))
theorem tz_zero (w : World) : Calls Go.Proofs.Tryz.prog 229 #[.int .u64 0] w fun e w' => e = .returned (.int .i64 64) ∧ w' = w := by
  go_enter Go.Proofs.Tryz.func229, Go.Proofs.Tryz.ntmps229
  go_wp2
  go_ret
  exact ⟨rfl, rfl⟩
set_option maxHeartbeats 1000000 in
theorem tz_core (x k idx : Nat) (w : World) (hx0 : ((x : Int) == 0) = false)
    (key : IntKind.u64.wrap (bits BinOp.and IntKind.u64 (x : Int) (IntKind.u64.wrap (-(x : Int))) * 285870213051353865) / 288230376151711744 = (idx : Int))
    (hi : idx < 64) (hk : k < 64) (hcell : w.cell? ⟨0, idx, none⟩ = some (.int .u8 k)) :
    Calls Go.Proofs.Tryz.prog 229 #[.int .u64 x] w fun e w' => e = .returned (.int .i64 k) ∧ w' = w := by
  go_enter Go.Proofs.Tryz.func229, Go.Proofs.Tryz.ntmps229
  go_wp2_with (simp only [key])
  go_ret
  exact ⟨rfl, rfl⟩
theorem tz_key (x a : Nat) (hx : x < 18446744073709551616) (hx0 : x ≠ 0) (hlow : x &&& (18446744073709551616 - x) = a) :
    IntKind.u64.wrap (bits BinOp.and IntKind.u64 (x : Int) (IntKind.u64.wrap (-(x : Int))) * 285870213051353865) / 288230376151711744 = ((a * 285870213051353865 % 18446744073709551616 / 288230376151711744 : Nat) : Int) := by
  have e1 : IntKind.u64.wrap (-(x : Int)) = ((18446744073709551616 - x : Nat) : Int) := by rw [IntKind.wrap_u64]; omega
  rw [e1, bits_and_u64_nat x _ hx (by omega), hlow, IntKind.wrap_u64]
  omega
theorem ctz_same : ∀ (f x : Nat), ctz f x = Lib.ctzFrom f x
  | 0, _ => rfl
  | f + 1, x => by
    unfold ctz Lib.ctzFrom
    rw [ctz_same f]
    split
    · rfl
    · omega
theorem ctz_zero : ∀ f, ctz f 0 = f
  | 0 => rfl
  | f + 1 => by
    unfold ctz
    rw [if_neg (by decide), Nat.zero_div, ctz_zero f]
theorem tz_walk (x : Nat) (hx : x < 18446744073709551616) (w : World) (hT : TabAt 0 w) :
    Calls Go.Proofs.Tryz.prog 229 #[.int .u64 x] w fun e w' => e = .returned (.int .i64 (ctz 64 x)) ∧ w' = w := by
  by_cases hx0 : x = 0
  · subst hx0
    rw [ctz_zero]
    exact tz_zero w
  · obtain ⟨hlow, hk⟩ := Lib.lowest_bit 64 x hx0 hx
    obtain ⟨hi, htab⟩ := Lib.deBruijn64_at _ hk
    have hcell := hT _ hi
    rw [htab] at hcell
    have e : ctz 64 x = Lib.ctz 64 x := by
      rw [ctz_same, Lib.ctz, if_neg hx0]
    rw [e]
    exact tz_core x _ _ w (by simp; omega) (tz_key x _ hx hx0 hlow) hi hk hcell
/-- blocks 0 and 1 hold the tables -/
def tabG (o o1 : Obj) : Glob := fun k => if k = 0 then some o else if k = 1 then some o1 else none
theorem tz_callOK (o o1 : Obj) (ho : ∀ w : World, w.heap[0]? = some o → TabAt 0 w) (key : List Nat) (s : Sig) : CallOK Go.Proofs.Tryz.prog (tabG o o1) 229 ⟨s, B0 229 key s⟩ := by
  intro w SA vs ps bs' ms p q hq hin
  by_cases hs : s = sg_math_bits_TrailingZeros64
  · subst hs
    have hq' : tzRun p = some q := by rw [← B0_tz key]; exact hq
    obtain ⟨x, u⟩ := p
    cases u
    change Int at x
    have hq2 : (if 0 ≤ x ∧ x < 18446744073709551616 then some ((((ctz 64 x.toNat : Nat) : Int), ()) : Int × Unit) else none) = some q := hq'
    split at hq2
    · rename_i hx
      cases hq2
      obtain ⟨v, r, p1, p2, b1, b2, m1, m2, rfl, rfl, rfl, rfl, ⟨rfl, rfl, v', r', e1, hrep, rfl, rfl⟩, rfl, rfl, rfl, rfl⟩ := hin.args
      cases e1
      have hrep' : [v] = [Value.int .u64 x] := hrep
      cases hrep'
      have ht := ho w (hin.glob 0 o rfl).1
      obtain ⟨n, rfl⟩ : ∃ n : Nat, x = (n : Int) := ⟨x.toNat, by omega⟩
      refine (tz_walk n (by omega) w ht).mono fun e w' ⟨he, hw⟩ => ?_
      subst hw
      refine ⟨.int .i64 (ctz 64 n), Nope, [.int .i64 (ctz 64 n)], [], [], he, ⟨rfl, rfl, rfl, Nat.le_refl _, fun k _ _ => rfl, fun k hk => hk.elim, ?_, rfl, ⟨rfl, rfl⟩, fun k hk => (by cases hk), fun k hk => (by cases hk), fun k hk => (by cases hk), List.nodup_nil⟩⟩
      exact ⟨_, [], [], [], rfl, rfl, .inr ⟨by decide, [_], ⟨_, [], rfl, rfl, rfl, rfl⟩, rfl⟩, rfl, rfl⟩
    · cases hq2
  · simp only [B0_tz_no hs] at hq
    cases hq
theorem dec_lib (n : Nat) : Lib.decDigits n = (dec n).map UInt8.ofNat := by
  induction n using Nat.strongRecOn with
  | _ n ih =>
    rw [Lib.decDigits, dec]
    split
    · rfl
    · rw [ih _ (by omega), List.map_append]; rfl
theorem itoa_lib (x : Int) : (⟨(Lib.itoa x).toArray⟩ : ByteArray) = bs (itoa x) := by
  unfold Lib.itoa itoa bs
  split
  · rw [dec_lib]; rfl
  · rw [dec_lib]
theorem itoa_callOK (o o1 : Obj) (ho1 : ∀ w : World, w.heap[1]? = some o1 → Lib.TabIs Go.Proofs.Tryz.prog w "internal/strconv.uint64pow10" .u64 Lib.pow10Tab) (key : List Nat) (s : Sig) : CallOK Go.Proofs.Tryz.prog (tabG o o1) 206 ⟨s, B0 206 key s⟩ := by
  intro w SA vs ps bs' ms p q hq hin
  by_cases hs : s = sg_strconv_Itoa
  · subst hs
    have hq' : itoaRun p = some q := by rw [← B0_itoa key]; exact hq
    obtain ⟨x, u⟩ := p
    cases u
    change Int at x
    have hq2 : (if -9223372036854775808 ≤ x ∧ x ≤ 9223372036854775807 then some ((bs (itoa x), ()) : ByteArray × Unit) else none) = some q := hq'
    split at hq2
    · rename_i hx
      cases hq2
      obtain ⟨v, r, p1, p2, b1, b2, m1, m2, rfl, rfl, rfl, rfl, ⟨rfl, rfl, v', r', e1, hrep, rfl, rfl⟩, rfl, rfl, rfl, rfl⟩ := hin.args
      cases e1
      have hrep' : [v] = [Value.int .i64 x] := hrep
      cases hrep'
      refine (Go.Proofs.Tryz.strconv_Itoa x hx.1 hx.2 w (ho1 w (hin.glob 1 o1 rfl).1)).mono fun e w' ⟨he, k, os, hw⟩ => ?_
      have hb : RowKit.Below w.heap.size w w' := by rw [hw]; exact Lib.below_grow _ w (Nat.le_refl _) k os
      rw [itoa_lib] at he
      refine ⟨_, Nope, [.string (bs (itoa x))], [], [], he, ⟨hb.os, hb.tape, hb.output, hb.size, fun k hk _ => hb.block k hk, fun k hk => hk.elim, ?_, rfl, ⟨rfl, rfl⟩, fun k hk => (by cases hk), fun k hk => (by cases hk), fun k hk => (by cases hk), List.nodup_nil⟩⟩
      exact ⟨_, [], [], [], rfl, rfl, .inr ⟨by decide, [_], ⟨_, [], rfl, rfl, rfl, rfl⟩, rfl⟩, rfl, rfl⟩
    · cases hq2
  · simp only [B0_itoa_no hs] at hq
    cases hq
theorem rep_lib (l : List Nat) : ∀ c : Nat, Lib.repeatL (l.map UInt8.ofNat) c = ((List.replicate c l).flatten).map UInt8.ofNat
  | 0 => rfl
  | c + 1 => by rw [Lib.repeatL, rep_lib l c, List.replicate_succ, List.flatten_cons, List.map_append]
theorem chs_back (s : ByteArray) : s.data.toList = (chs s).map UInt8.ofNat := by
  conv => lhs; rw [← bs_chs s]
  simp [bs]
theorem rep_callOK (G : Glob) (key : List Nat) (s : Sig) : CallOK Go.Proofs.Tryz.prog G 219 ⟨s, B0 219 key s⟩ := by
  intro w SA vs ps bs' ms p q hq hin
  by_cases hs : s = sg_strings_Repeat
  · subst hs
    have hq' : repRun p = some q := by rw [← B0_rep key]; exact hq
    obtain ⟨a, c, u⟩ := p
    cases u
    change ByteArray at a
    change Int at c
    have hq2 : (if 0 ≤ c ∧ a.size * c.toNat ≤ 100000 ∧ c ≤ 100000 then some ((bs (List.replicate c.toNat (chs a)).flatten, ()) : ByteArray × Unit) else none) = some q := hq'
    obtain ⟨v, r, p1, p2, b1, b2, m1, m2, rfl, rfl, rfl, rfl, ⟨rfl, rfl, v', r', e1, hrep, rfl, rfl⟩, v2, r2, p1', p2', b1', b2', m1', m2', rfl, rfl, rfl, rfl, ⟨rfl, rfl, v2', r2', e2, hrep2, rfl, rfl⟩, rfl, rfl, rfl, rfl⟩ := hin.args
    cases e1
    cases e2
    have h1 : [v] = [Value.string a] := hrep
    have h2 : [v2] = [Value.int .i64 c] := hrep2
    cases h1
    cases h2
    split at hq2
    · rename_i hc
      cases hq2
      obtain ⟨n, rfl⟩ : ∃ n : Nat, c = (n : Int) := ⟨c.toNat, by omega⟩
      rw [Int.toNat_natCast] at hc
      refine (Go.Proofs.Tryz.strings_Repeat a n w (by omega) (by omega)).mono fun e w' ⟨he, hb⟩ => ?_
      have e3 : (⟨(Lib.repeatL a.data.toList n).toArray⟩ : ByteArray) = bs (List.replicate n (chs a)).flatten := by
        rw [chs_back, rep_lib]; rfl
      rw [e3] at he
      refine ⟨_, Nope, [.string (bs (List.replicate n (chs a)).flatten)], [], [], he, ⟨hb.os, hb.tape, hb.output, hb.size, fun k hk _ => hb.block k hk, fun k hk => hk.elim, ?_, rfl, ⟨rfl, rfl⟩, fun k hk => (by cases hk), fun k hk => (by cases hk), fun k hk => (by cases hk), List.nodup_nil⟩⟩
      exact ⟨_, [], [], [], rfl, rfl, .inr ⟨by decide, [_], ⟨_, [], rfl, rfl, rfl, rfl⟩, rfl⟩, rfl, rfl⟩
    · cases hq2
  · simp only [B0_rep_no hs] at hq
    cases hq
theorem trim_lib (l : List Nat) (c : Nat) (hl : Bl l) (hc : c < 256) : Lib.trimRightB (l.map UInt8.ofNat) (UInt8.ofNat c) = ((l.reverse.dropWhile (· == c)).reverse).map UInt8.ofNat := by
  unfold Lib.trimRightB
  rw [← List.map_reverse, List.dropWhile_map, List.map_reverse]
  congr 2
  have hrev : ∀ x ∈ l.reverse, x < 256 := fun x hx => hl x (List.mem_reverse.1 hx)
  generalize l.reverse = m at hrev
  induction m with
  | nil => rfl
  | cons x m ih =>
    have hx := hrev x (List.mem_cons_self ..)
    have e : ((fun y => y == UInt8.ofNat c) ∘ UInt8.ofNat) x = (x == c) := by
      show (UInt8.ofNat x == UInt8.ofNat c) = (x == c)
      have : UInt8.ofNat x = UInt8.ofNat c ↔ x = c := by
        rw [← UInt8.toNat_inj, UInt8.toNat_ofNat', UInt8.toNat_ofNat', Nat.mod_eq_of_lt hx, Nat.mod_eq_of_lt hc]
      by_cases h : x = c
      · subst h; simp
      · rw [show (x == c) = false from by simpa using h]
        simpa using fun h' => h (this.1 h')
    rw [List.dropWhile_cons, List.dropWhile_cons, e, ih (fun y hy => hrev y (List.mem_cons_of_mem _ hy))]
theorem trim_callOK (G : Glob) (key : List Nat) (s : Sig) : CallOK Go.Proofs.Tryz.prog G 205 ⟨s, B0 205 key s⟩ := by
  intro w SA vs ps bs' ms p q hq hin
  by_cases hs : s = sg_strings_TrimRight
  · subst hs
    have hq' : trimRun p = some q := by rw [← B0_trim key]; exact hq
    obtain ⟨a, t, u⟩ := p
    cases u
    change ByteArray at a t
    have hq2 : (match chs t with | [c] => if c < 128 ∧ a.size ≤ 1000000 then some ((bs ((chs a).reverse.dropWhile (· == c)).reverse, ()) : ByteArray × Unit) else none | _ => none) = some q := hq'
    obtain ⟨v, r, p1, p2, b1, b2, m1, m2, rfl, rfl, rfl, rfl, ⟨rfl, rfl, v', r', e1, hrep, rfl, rfl⟩, v2, r2, p1', p2', b1', b2', m1', m2', rfl, rfl, rfl, rfl, ⟨rfl, rfl, v2', r2', e2, hrep2, rfl, rfl⟩, rfl, rfl, rfl, rfl⟩ := hin.args
    cases e1
    cases e2
    have h1 : [v] = [Value.string a] := hrep
    have h2 : [v2] = [Value.string t] := hrep2
    cases h1
    cases h2
    split at hq2
    · rename_i c hc
      split at hq2
      · rename_i hcs
        cases hq2
        have ht : t = ⟨#[UInt8.ofNat c]⟩ := by rw [← bs_chs t, hc]; rfl
        subst ht
        refine (Go.Proofs.Tryz.strings_TrimRight_one a (UInt8.ofNat c) (by rw [UInt8.toNat_ofNat', Nat.mod_eq_of_lt (by omega)]; exact hcs.1) w (by omega)).mono fun e w' ⟨he, hw⟩ => ?_
        subst hw
        have e3 : (⟨(Lib.trimRightB a.data.toList (UInt8.ofNat c)).toArray⟩ : ByteArray) = bs ((chs a).reverse.dropWhile (· == c)).reverse := by
          rw [chs_back, trim_lib _ _ (bl_chs a) (by omega)]; rfl
        rw [e3] at he
        refine ⟨_, Nope, [.string (bs ((chs a).reverse.dropWhile (· == c)).reverse)], [], [], he, ⟨rfl, rfl, rfl, Nat.le_refl _, fun k _ _ => rfl, fun k hk => hk.elim, ?_, rfl, ⟨rfl, rfl⟩, fun k hk => (by cases hk), fun k hk => (by cases hk), fun k hk => (by cases hk), List.nodup_nil⟩⟩
        exact ⟨_, [], [], [], rfl, rfl, .inr ⟨by decide, [_], ⟨_, [], rfl, rfl, rfl, rfl⟩, rfl⟩, rfl, rfl⟩
      · cases hq2
    · cases hq2
  · simp only [B0_trim_no hs] at hq
    cases hq
theorem base_only : (S.all fun p => (look F p.1).isSome || (Nat.beq p.1 196 || (Nat.beq p.1 229 || (Nat.beq p.1 206 || (Nat.beq p.1 219 || Nat.beq p.1 205))))) = true := by kernel_rfl
theorem seat_OK (o o1 : Obj) (ho : ∀ w : World, w.heap[0]? = some o → TabAt 0 w) (ho1 : ∀ w : World, w.heap[1]? = some o1 → Lib.TabIs Go.Proofs.Tryz.prog w "internal/strconv.uint64pow10" .u64 Lib.pow10Tab) : Prog.OK Go.Proofs.Tryz.prog (tabG o o1) (C B0) where
  T := seat_T
  mixed := by kernel_rfl
  F := seat_F
  B := fun f key s hf hS => by
    have h2 : f = 196 ∨ f = 229 ∨ f = 206 ∨ f = 219 ∨ f = 205 := by
      cases h : look S f with
      | none => exact absurd h hS
      | some l =>
        have := List.all_eq_true.1 base_only _ (look_mem h)
        simp only [Bool.or_eq_true, Nat.beq_eq] at this
        rcases this with h1 | h1
        · have hf' : look F f = none := hf
          rw [hf'] at h1; cases h1
        · exact h1
    rcases h2 with rfl | rfl | rfl | rfl | rfl
    · exact ⟨clone_callOK _ key s, Go.Proofs.Tryz.f196, Go.Proofs.Tryz.func196, by kernel_rfl, by kernel_rfl⟩
    · exact ⟨tz_callOK o o1 ho key s, Go.Proofs.Tryz.f229, Go.Proofs.Tryz.func229, by kernel_rfl, by kernel_rfl⟩
    · exact ⟨itoa_callOK o o1 ho1 key s, Go.Proofs.Tryz.f206, Go.Proofs.Tryz.func206, by kernel_rfl, by kernel_rfl⟩
    · exact ⟨rep_callOK _ key s, Go.Proofs.Tryz.f219, Go.Proofs.Tryz.func219, by kernel_rfl, by kernel_rfl⟩
    · exact ⟨trim_callOK _ key s, Go.Proofs.Tryz.f205, Go.Proofs.Tryz.func205, by kernel_rfl, by kernel_rfl⟩
end Go.Px.Seat
