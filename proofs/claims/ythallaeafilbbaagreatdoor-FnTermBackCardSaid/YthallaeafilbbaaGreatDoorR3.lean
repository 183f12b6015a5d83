/- The base of the calls. Seat T. -/
import Derived.Test.YthallaeafilbbaaGreatDoorR1
import Derived.Test.YthallaeafilbbaaGreatDoorM7
import Derived.Test.YthallaeafilbbaaGreatDoorR2
import Derived.Lib.AppendIntMem
import Derived.Lib.Join
import Derived.Lib.SlicesS
import Derived.WalkKit
import Derived.Lib.LazyBuf
import Derived.OwnWalk
import Derived.Maps.AppendAt
set_option linter.unusedVariables false

namespace Go.Px.Seat
open Go Pt
set_option linter.unusedVariables false
set_option maxRecDepth 100000 in
theorem clone_walk {S : Nat → Prop} (ad : Addr) (n cap : Nat) (w : World) (l : List Tn) (hn : l.length = n) (hpos : 0 < n) (hle : n ≤ 1000000) (us : List Value)
    (hch : Chop (Rep w.heap S (.cons (.int .i64) (.cons (.int .i64) (.cons .str .nil)))) l us) (hc : ∀ j u, us[j]? = some u → w.cell? (ad.add j) = some u) (had : ad.block < w.heap.size) :
    Calls Go.Proofs.Tryz.prog 125 #[.slice (some ad) n cap] w fun e w' => ∃ v, e = .returned v ∧ w'.ownsRow 0 73 3 v n us ∧ RowKit.Below w.heap.size w w' ∧ (∀ k, v.ownBlock = some k → w.heap.size ≤ k) := by
  have heq : ∀ w1, (binOp .eql 38 (.slice (some ad) n cap) (.slice none 0 0)).run Go.Proofs.Tryz.prog w1 = .ok (.bool false) w1 := fun w1 => run_eql_slice_nil w1 38 73 (some ad) n cap Go.Proofs.Tryz.underlying38
  have hl : us.length = n * 3 := by rw [← hn]; exact hch.len
  have hone : ∀ u ∈ us, u.oneCell' = true := hch.one
  have hown : (w.alloc (.cells #[] 73)).ownsRow 0 73 3 (.slice (some ⟨w.heap.size, 0, none⟩) 0 0) 0 [] := by
    refine ⟨rfl, .inr ⟨w.heap.size, 0, #[], rfl, by omega, ?_, by omega, by simp only [maxLen]; omega, rfl, rfl⟩⟩
    show (w.heap.push _)[w.heap.size]? = _
    rw [Array.getElem?_push, if_pos rfl]
  have hcell : ∀ j u, us[j]? = some u → (w.alloc (.cells #[] 73)).cell? (ad.add j) = some u := fun j u h => by
    have hb : ∀ j, (ad.add j).block = ad.block := fun j => by unfold Addr.add; split <;> rfl
    rw [← hc j u h]
    exact World.cell?_of_block (RowKit.Below.heap_alloc w _ _ (by rw [hb]; exact had))
  obtain ⟨i0, hi, hz0, hz1, hz2⟩ : ∃ i0, Go.Proofs.Tryz.prog.info? 73 = some i0 ∧ i0.zero = some (.agg #[.int .i64 0, .int .i64 0, .string ByteArray.empty]) ∧ i0.size = 3 ∧ i0.bytes = 32 := ⟨Go.Proofs.Tryz.t73, by kernel_rfl, by kernel_rfl, by kernel_rfl, by kernel_rfl⟩
  clear hch hc
  go_enter Go.Proofs.Tryz.func125, Go.Proofs.Tryz.ntmps125
  go_wp2_with (first | (at_builtin; refine wpList_append_own_at _ rfl _ _ 38 rfl 0 73 i0 (.agg #[.int .i64 0, .int .i64 0, .string ByteArray.empty]) 3 32 Go.Proofs.Tryz.underlying38 hi hz0 hz1 hz2 rfl (by decide) _ _ _ rfl hown ad n cap us rfl hl hcell hone (by simp only [maxLen]; omega) (by omega) (by omega) ?_; intro v' w1 hown' hgrow hnil hloc))
  have hown2 : w1.ownsRow 0 73 3 v' n us := by
    have := hown'
    rwa [Nat.zero_add] at this
  have hg2 : RowKit.Below w.heap.size w w1 := by
    have h0 : RowKit.Below w.heap.size w (w.alloc (.cells #[] 73)) := (RowKit.Below.refl _ _).alloc (Nat.le_refl _) _
    refine h0.grown hgrow (by show w.heap.size ≤ (w.heap.push _).size; simp) (fun k hk => ?_)
    have : some w.heap.size = some k := hk
    injection this with h
    omega
  have hloc2 : ∀ k, v'.ownBlock = some k → w.heap.size ≤ k := by
    intro k hk
    rcases hloc with h | h
    · rw [hk] at h
      have : some k = some w.heap.size := h
      injection this with h
      omega
    · rw [hk] at h
      have : some k = some (w.heap.push (.cells #[] 73)).size := h
      injection this with h
      rw [Array.size_push] at h
      omega
  clear hown' hgrow hnil hloc hown hcell hi hz0 hz1 hz2
  go_ret
  exact ⟨_, rfl, hown2, hg2, hloc2⟩
theorem clone_callOK (G : Glob) (key : List Nat) (s : Sig) : CallOK Go.Proofs.Tryz.prog G 125 ⟨s, B0 125 key s⟩ := by
  intro w SA vs ps bs' ms p q hq hin
  by_cases hs : s = sg_slices_Clone_impl_TermNode_impl_TermNode
  · subst hs
    have hq' : cloneTRun p = some q := by rw [← B0_clone key]; exact hq
    obtain ⟨l, u⟩ := p
    cases u
    change List Tn at l
    have hq2 : cloneV l = some q := hq'
    unfold cloneV at hq2
    split at hq2
    · cases hq2
    · rename_i hl
      cases hq2
      have hne : l ≠ [] := fun h => hl (.inl h)
      have hle : List.length (α := Tn) l ≤ 1000000 := Nat.le_of_not_lt fun h => hl (.inr h)
      obtain ⟨v, r, p1, p2, b1, b2, m1, m2, rfl, rfl, rfl, rfl, ⟨rfl, rfl, v', r', e1, hrep, rfl, rfl⟩, rfl, rfl, rfl, rfl⟩ := hin.args
      cases e1
      obtain ⟨a, n, c, e2, hn, hnc, hz⟩ := hrep
      cases e2
      change List.length (α := Tn) l = n at hn
      have hpos : 0 < n := by rw [← hn]; exact List.length_pos_iff.2 hne
      rcases hz with hz | ⟨g, off, arr, et, fr, rfl, hg, harr, hfit, hch⟩
      · omega
      · have hlt : g < w.heap.size := by
          rcases Array.getElem?_eq_some_iff.1 harr with ⟨h, _⟩
          exact h
        refine (clone_walk (S := S2 SA Nope false) ⟨g, off, none⟩ n c w l hn hpos (by omega) _ hch (fun j u h => cut_cell harr j u h) hlt).mono fun e w' ⟨v, he, hown, hbel, hnew⟩ => ?_
        have hch' : Chop (Rep w'.heap (S2 SA Nope true) (.cons (.int .i64) (.cons (.int .i64) (.cons .str .nil)))) l ((arr.toList.drop off).take (n * Ty.size (.cons (.int .i64) (.cons (.int .i64) (.cons .str .nil))))) := hch.mono fun c x h => h
        obtain ⟨A, N, C, hv⟩ := owns_slice hown
        have hob : ownB v = v.ownBlock := ownB_slice ⟨A, N, C, hv⟩
        have hmem : ∀ k ∈ (ownB v).toList, w.heap.size ≤ k ∧ k < w'.heap.size := fun k hk => by
          have hk' : v.ownBlock = some k := by
            rw [← hob]
            cases h : ownB v with
            | none => rw [h] at hk; cases hk
            | some x =>
              rw [h] at hk
              simp at hk
              rw [hk]
          exact ⟨hnew k hk', (hown.lt k hk').2⟩
        have hnn : n = List.length (α := Tn) l := hn.symm
        refine ⟨v, Nope, [v], (ownB v).toList, [], he, ⟨hbel.os, hbel.tape, hbel.output, hbel.size, fun k hk _ => hbel.block k hk, fun k hk => hk.elim, ?_, rfl, ⟨rfl, rfl⟩, fun k hk => ⟨.inl (hmem k hk).1, (hmem k hk).2⟩, fun k _ h => h, fun k hk => (by cases hk), ?_⟩⟩
        · refine ⟨v, [], (ownB v).toList, [], rfl, by simp, .inr ⟨by decide, [v], ⟨v, [], _, [], rfl, by simp, ?_, hch', rfl, rfl⟩, rfl⟩, rfl, rfl⟩
          subst hn
          exact hown
        · cases ownB v <;> simp
  · simp only [B0_clone_no hs] at hq
    cases hq
theorem idx_indexByte (c : UInt8) : ∀ l : List UInt8, idx (l.map UInt8.toNat) c.toNat = Lib.indexByte l c
  | [] => rfl
  | b :: l => by
    have ih := idx_indexByte c l
    unfold Lib.indexByte
    rw [← ih]
    unfold idx
    rw [List.map_cons, List.takeWhile_cons]
    by_cases h : b = c
    · subst h
      rw [if_pos (List.mem_cons_self ..), show (b.toNat != b.toNat) = false from by simp, show (b == b) = true from by simp]
      rfl
    · have hn : b.toNat ≠ c.toNat := fun h' => h (UInt8.toNat_inj.1 h')
      have e1 : (b.toNat != c.toNat) = true := by simpa using hn
      have e2 : (b == c) = false := by simpa using h
      rw [e1, e2]
      simp only [Bool.false_eq_true, if_false, if_true, List.length_cons, List.mem_cons]
      by_cases hm : c.toNat ∈ l.map UInt8.toNat
      · rw [if_pos (.inr hm), if_pos hm, if_neg (by simp)]
        exact Int.natCast_succ _
      · rw [if_neg (fun h' => h'.elim (fun h => hn h.symm) hm), if_neg hm, if_pos (by simp)]
theorem idx_bytes (s : ByteArray) {c : Nat} (hc : c < 256) : Lib.indexByte s.data.toList (UInt8.ofNat c) = idx (chs s) c := by
  rw [← idx_indexByte]
  unfold chs
  rw [UInt8.toNat_ofNat', Nat.mod_eq_of_lt hc]
theorem index_callOK (G : Glob) (key : List Nat) (s : Sig) : CallOK Go.Proofs.Tryz.prog G 164 ⟨s, B0 164 key s⟩ := by
  intro w SA vs ps bs ms p q hq hin
  by_cases hs : s = sg_internal_stringslite_Index
  · subst hs
    have hq' : indexRun p = some q := by rw [← B0_index key]; exact hq
    obtain ⟨a, t, u⟩ := p
    cases u
    change ByteArray at a t
    have hq2 : (match chs t with | [c] => some ((idx (chs a) c, ()) : Int × Unit) | _ => none) = some q := hq'
    obtain ⟨v, r, p1, p2, b1, b2, m1, m2, rfl, rfl, rfl, rfl, ⟨rfl, rfl, v', r', e1, hrep, rfl, rfl⟩, v2, r2, p1', p2', b1', b2', m1', m2', rfl, rfl, rfl, rfl, ⟨rfl, rfl, v2', r2', e2, hrep2, rfl, rfl⟩, rfl, rfl, rfl, rfl⟩ := hin.args
    cases e1
    cases e2
    have h1 : [v] = [Value.string a] := hrep
    have h2 : [v2] = [Value.string t] := hrep2
    cases h1
    cases h2
    split at hq2
    · rename_i c hc
      cases hq2
      have hlt : c < 256 := chs_lt (s := t) (by rw [hc]; exact List.mem_singleton.2 rfl)
      have ht : t = ⟨#[UInt8.ofNat c]⟩ := by rw [← bs_chs t, hc]; rfl
      subst ht
      refine (Go.Proofs.Tryz.stringslite_Index_one a (UInt8.ofNat c) w).mono fun e w' ⟨he, hw⟩ => ?_
      subst hw
      refine ⟨_, Nope, [_], [], [], he, ⟨rfl, rfl, rfl, Nat.le_refl _, fun k _ _ => rfl, fun k hk => hk.elim, ?_, rfl, ⟨rfl, rfl⟩, fun k hk => (by cases hk), fun k hk => (by cases hk), fun k hk => (by cases hk), List.nodup_nil⟩⟩
      refine ⟨_, [], [], [], rfl, rfl, .inr ⟨by decide, [_], ⟨_, [], rfl, ?_, rfl, rfl⟩, rfl⟩, rfl, rfl⟩
      show [Value.int .i64 _] = [Value.int .i64 _]
      rw [idx_bytes a hlt]
      rfl
    · cases hq2
  · simp only [B0_index_no hs] at hq
    cases hq
theorem ib_callOK (G : Glob) (key : List Nat) (s : Sig) : CallOK Go.Proofs.Tryz.prog G 166 ⟨s, B0 166 key s⟩ := by
  intro w SA vs ps bs ms p q hq hin
  by_cases hs : s = sg_internal_stringslite_IndexByte
  · subst hs
    have hq' : ibRun p = some q := by rw [← B0_ib key]; exact hq
    obtain ⟨a, c, u⟩ := p
    cases u
    change ByteArray at a
    change Int at c
    have hq2 : (if 0 ≤ c ∧ c < 256 then some ((idx (chs a) c.toNat, ()) : Int × Unit) else none) = some q := hq'
    obtain ⟨v, r, p1, p2, b1, b2, m1, m2, rfl, rfl, rfl, rfl, ⟨rfl, rfl, v', r', e1, hrep, rfl, rfl⟩, v2, r2, p1', p2', b1', b2', m1', m2', rfl, rfl, rfl, rfl, ⟨rfl, rfl, v2', r2', e2, hrep2, rfl, rfl⟩, rfl, rfl, rfl, rfl⟩ := hin.args
    cases e1
    cases e2
    have h1 : [v] = [Value.string a] := hrep
    have h2 : [v2] = [Value.int .u8 c] := hrep2
    cases h1
    cases h2
    split at hq2
    · rename_i hc
      cases hq2
      refine (Go.Proofs.Tryz.stringslite_IndexByte a c w).mono fun e w' ⟨he, hw⟩ => ?_
      subst hw
      refine ⟨_, Nope, [_], [], [], he, ⟨rfl, rfl, rfl, Nat.le_refl _, fun k _ _ => rfl, fun k hk => hk.elim, ?_, rfl, ⟨rfl, rfl⟩, fun k hk => (by cases hk), fun k hk => (by cases hk), fun k hk => (by cases hk), List.nodup_nil⟩⟩
      refine ⟨_, [], [], [], rfl, rfl, .inr ⟨by decide, [_], ⟨_, [], rfl, ?_, rfl, rfl⟩, rfl⟩, rfl, rfl⟩
      show [Value.int .i64 (Lib.indexByte a.data.toList (UInt8.ofNat c.toNat))] = [Value.int .i64 _]
      rw [idx_bytes a (show c.toNat < 256 by omega)]
      rfl
    · cases hq2
  · simp only [B0_ib_no hs] at hq
    cases hq
/-- the language's own words, where the variable leads -/
def wordsB : List ByteArray := Pt.words.map bs
def WordsAt (w : World) : Prop := ∃ b off c, w.cell? ⟨0, 0, none⟩ = some (.slice (some ⟨b, off, none⟩) 6 c) ∧ ∀ j, j < wordsB.length → w.cell? ⟨b, off + j, none⟩ = some (.string (wordsB.getD j ByteArray.empty))
/-- an error variable that holds an error, or none -/
def IfAt (g : Nat) (w : World) : Prop := ∃ ev, w.cell? ⟨g, 0, none⟩ = some ev ∧ (ev = .nilIface ∨ ∃ te pe, ev = .iface te pe)
/-- what is asked of the blocks whose content is known -/
def Known (G : Glob) : Prop := ∀ w : World, (∀ k o, G k = some o → w.heap[k]? = some o) → WordsAt w ∧ Lib.TabIs Go.Proofs.Tryz.prog w "internal/strconv.uint64pow10" .u64 Lib.pow10Tab ∧ IfAt 3 w ∧ IfAt 4 w
theorem dec_lib (n : Nat) : Lib.decDigits n = (dec n).map UInt8.ofNat := by
  induction n using Nat.strongRecOn with
  | _ n ih =>
    rw [Lib.decDigits, dec]
    split
    · rfl
    · rw [ih _ (by omega), List.map_append]; rfl
theorem itoa_lib (x : Int) : (⟨(Lib.itoa x).toArray⟩ : ByteArray) = bs (itoa x) := by
  unfold Lib.itoa itoa bs
  split
  · rw [dec_lib]; rfl
  · rw [dec_lib]
theorem itoa_callOK {G : Glob} (hG : Known G) (key : List Nat) (s : Sig) : CallOK Go.Proofs.Tryz.prog G 113 ⟨s, B0 113 key s⟩ := by
  intro w SA vs ps bs' ms p q hq hin
  by_cases hs : s = sg_strconv_Itoa
  · subst hs
    have hq' : itoaRun p = some q := by rw [← B0_itoa key]; exact hq
    obtain ⟨x, u⟩ := p
    cases u
    change Int at x
    have hq2 : (if -9223372036854775808 ≤ x ∧ x ≤ 9223372036854775807 then some ((bs (itoa x), ()) : ByteArray × Unit) else none) = some q := hq'
    split at hq2
    · rename_i hx
      cases hq2
      obtain ⟨v, r, p1, p2, b1, b2, m1, m2, rfl, rfl, rfl, rfl, ⟨rfl, rfl, v', r', e1, hrep, rfl, rfl⟩, rfl, rfl, rfl, rfl⟩ := hin.args
      cases e1
      have hrep' : [v] = [Value.int .i64 x] := hrep
      cases hrep'
      refine (Go.Proofs.Tryz.strconv_Itoa x hx.1 hx.2 w (hG w fun k o h => (hin.glob k o h).1).2.1).mono fun e w' ⟨he, k, os, hw⟩ => ?_
      have hb : RowKit.Below w.heap.size w w' := by rw [hw]; exact Lib.below_grow _ w (Nat.le_refl _) k os
      rw [itoa_lib] at he
      refine ⟨_, Nope, [.string (bs (itoa x))], [], [], he, ⟨hb.os, hb.tape, hb.output, hb.size, fun k hk _ => hb.block k hk, fun k hk => hk.elim, ?_, rfl, ⟨rfl, rfl⟩, fun k hk => (by cases hk), fun k hk => (by cases hk), fun k hk => (by cases hk), List.nodup_nil⟩⟩
      exact ⟨_, [], [], [], rfl, rfl, .inr ⟨by decide, [_], ⟨_, [], rfl, rfl, rfl, rfl⟩, rfl⟩, rfl, rfl⟩
    · cases hq2
  · simp only [B0_itoa_no hs] at hq
    cases hq
theorem atoi_out {w w' : World} (SA : Nat → Prop) (x : Int) (b : Bool) (ve : Value) (hv : (b = false ∧ ve = .nilIface) ∨ (b = true ∧ ∃ t y, ve = .iface t y)) (hb : RowKit.Below w.heap.size w w') :
    OutOK w SA [] [] [] sg_strconv_Atoi ((x, (b, ())) : Int × (Bool × Unit)) (.tuple #[.int .i64 x, ve]) w' Nope [.int .i64 x, ve] [] [] := by
  refine ⟨hb.os, hb.tape, hb.output, hb.size, fun k hk _ => hb.block k hk, fun k hk => hk.elim, ?_, rfl, ⟨rfl, rfl⟩, fun k hk => (by cases hk), fun k hk => (by cases hk), fun k hk => (by cases hk), List.nodup_nil⟩
  refine ⟨_, [ve], [], [], rfl, rfl, .inr ⟨by decide, [_], ⟨_, [], rfl, rfl, rfl, rfl⟩, rfl⟩, _, [], [], [], rfl, rfl, .inr ⟨by decide, [_], ⟨_, [], rfl, ?_, rfl, rfl⟩, rfl⟩, rfl, rfl⟩
  rcases hv with ⟨rfl, rfl⟩ | ⟨rfl, t, y, rfl⟩
  · exact .inl ⟨rfl, rfl⟩
  · exact .inr ⟨rfl, t, y, rfl⟩
theorem atoi_callOK {G : Glob} (hG : Known G) (key : List Nat) (s : Sig) : CallOK Go.Proofs.Tryz.prog G 193 ⟨s, B0 193 key s⟩ := by
  intro w SA vs ps bs ms p q hq hin
  by_cases hs : s = sg_strconv_Atoi
  · subst hs
    have hq' : atoiRun p = some q := by rw [← B0_atoi key]; exact hq
    obtain ⟨a, u⟩ := p
    cases u
    change ByteArray at a
    have hq2 : (if 100000 < a.size then none else match Lib.atoiAll a.data.toList with
      | .ok v => some (((v : Int), ((false : Bool), ())) : Int × (Bool × Unit))
      | .range => some (Lib.atoiSat a.data.toList, ((true : Bool), ()))
      | _ => some ((0 : Int), ((true : Bool), ()))) = some q := hq'
    obtain ⟨v, r, p1, p2, b1, b2, m1, m2, rfl, rfl, rfl, rfl, ⟨rfl, rfl, v', r', e1, hrep, rfl, rfl⟩, rfl, rfl, rfl, rfl⟩ := hin.args
    cases e1
    have h1 : [v] = [Value.string a] := hrep
    cases h1
    have hk := hG w fun k o h => (hin.glob k o h).1
    obtain ⟨ev1, hc1, hv1⟩ := hk.2.2.1
    obtain ⟨ev2, hc2, hv2⟩ := hk.2.2.2
    split at hq2
    · cases hq2
    · rename_i hsz
      rcases hx : Lib.atoiAll a.data.toList with x | _ | _
      · rw [hx] at hq2
        cases hq2
        refine (Go.Proofs.Tryz.strconv_Atoi_ok a (by omega) x hx w).mono fun e w' ⟨he, hw⟩ => ?_
        refine ⟨_, Nope, _, [], [], he, atoi_out SA x false .nilIface (.inl ⟨rfl, rfl⟩) ?_⟩
        rcases hw with rfl | ⟨t, rfl⟩
        · exact RowKit.Below.refl _ _
        · exact Lib.bytesWorld_below _ _ _
      · rw [hx] at hq2
        cases hq2
        exact (Go.Proofs.Any.strconv_Atoi_syntax Go.Proofs.Tryz.laysC172 a (by omega) hx ev1 w hc1 hv1).mono fun e w' ⟨N, he, _, _, hb⟩ =>
          ⟨_, Nope, _, [], [], he, atoi_out SA 0 true _ (.inr ⟨rfl, _, _, rfl⟩) hb⟩
      · rw [hx] at hq2
        cases hq2
        exact (Go.Proofs.Tryz.strconv_Atoi_range a (by omega) hx ev2 w hc2 hv2).mono fun e w' ⟨N, he, _, _, hb⟩ =>
          ⟨_, Nope, _, [], [], he, atoi_out SA _ true _ (.inr ⟨rfl, _, _, rfl⟩) hb⟩
  · simp only [B0_atoi_no hs] at hq
    cases hq
theorem chs_back (s : ByteArray) : s.data.toList = (chs s).map UInt8.ofNat := by
  conv => lhs; rw [← bs_chs s]
  simp [bs]
theorem join_lib (s : List Nat) : ∀ L : List (List Nat), Lib.join (L.map fun l => l.map UInt8.ofNat) (s.map UInt8.ofNat) = (joinL s L).map UInt8.ofNat
  | [] => rfl
  | [x] => Lib.join_one _ _
  | x :: y :: r => by
    have h := join_lib s (y :: r)
    rw [List.map_cons, Lib.join_cons] at h ⊢
    show x.map UInt8.ofNat ++ Lib.joinTail _ (y.map UInt8.ofNat :: r.map fun l => l.map UInt8.ofNat) = (x ++ (s ++ joinL s (y :: r))).map UInt8.ofNat
    rw [List.map_append, List.map_append, ← h]
    simp [Lib.joinTail, List.append_assoc]
theorem chop_strs {h : Array Obj} {S : Nat → Prop} : ∀ {l : List ByteArray} {vs : List Value}, Chop (Rep h S .str) l vs → vs = l.map Value.string
  | [], _, h => h
  | x :: l, _, ⟨c, r, e, h1, h2⟩ => by
    have h1' : c = [Value.string x] := h1
    rw [e, h1', chop_strs h2]
    rfl
theorem join_callOK (G : Glob) (key : List Nat) (s : Sig) : CallOK Go.Proofs.Tryz.prog G 62 ⟨s, B0 62 key s⟩ := by
  intro w SA vs ps bs' ms p q hq hin
  by_cases hs : s = sg_strings_Join
  · subst hs
    have hq' : joinRun p = some q := by rw [← B0_join key]; exact hq
    obtain ⟨l, t, u⟩ := p
    cases u
    change List ByteArray at l
    change ByteArray at t
    have hq2 : joinV l t = some q := hq'
    unfold joinV at hq2
    obtain ⟨v, r, p1, p2, b1, b2, m1, m2, rfl, rfl, rfl, rfl, ⟨rfl, rfl, v', r', e1, hrep, rfl, rfl⟩, v2, r2, p1', p2', b1', b2', m1', m2', rfl, rfl, rfl, rfl, ⟨rfl, rfl, v2', r2', e2, hrep2, rfl, rfl⟩, rfl, rfl, rfl, rfl⟩ := hin.args
    cases e1
    cases e2
    have h2 : [v2] = [Value.string t] := hrep2
    cases h2
    obtain ⟨a, n, c, e3, hn, hnc, hz⟩ := hrep
    cases e3
    change List.length (α := ByteArray) l = n at hn
    split at hq2
    · cases hq2
    · rename_i hc
      cases hq2
      have hne : l ≠ [] := fun h => hc (.inl h)
      have h100 : l.length ≤ 100000 := Nat.le_of_not_lt fun h => hc (.inr (.inl h))
      have hbig : (joinL (chs t) (l.map chs)).length ≤ 1000000000 := Nat.le_of_not_lt fun h => hc (.inr (.inr h))
      have hpos : 0 < l.length := List.length_pos_iff.2 hne
      rcases hz with hz | ⟨g, off, arr, et, fr, rfl, hg, harr, hfit, hch⟩
      · omega
      · have hlt : g < w.heap.size := by
          rcases Array.getElem?_eq_some_iff.1 harr with ⟨h, _⟩
          exact h
        have hcs : (arr.toList.drop off).take (n * Ty.size .str) = l.map Value.string := chop_strs hch
        have hcell : ∀ (j : Nat) x, l[j]? = some x → w.cell? ⟨g, off + j, none⟩ = some (.string x) := fun j x hx => by
          have := cut_cell (k := n * Ty.size .str) harr j (.string x) (by rw [hcs, List.getElem?_map, hx]; rfl)
          rwa [Go.WideShapes.add_plain] at this
        have e4 : Lib.join (l.map (·.data.toList)) t.data.toList = (joinL (chs t) (l.map chs)).map UInt8.ofNat := by
          rw [← join_lib, chs_back t, List.map_map]
          refine congrArg (fun z => Lib.join z _) ?_
          exact List.map_congr_left fun x _ => chs_back x
        subst hn
        refine (Go.Proofs.Tryz.strings_Join g off c l t w hcell hlt (by omega) hnc (by rw [e4, List.length_map]; omega)).mono fun e w' ⟨he, hb⟩ => ?_
        rw [e4] at he
        refine ⟨_, Nope, [.string (bs (joinL (chs t) (l.map chs)))], [], [], he, ⟨hb.os, hb.tape, hb.output, hb.size, fun k hk _ => hb.block k hk, fun k hk => hk.elim, ?_, rfl, ⟨rfl, rfl⟩, fun k hk => (by cases hk), fun k hk => (by cases hk), fun k hk => (by cases hk), List.nodup_nil⟩⟩
        exact ⟨_, [], [], [], rfl, rfl, .inr ⟨by decide, [_], ⟨_, [], rfl, rfl, rfl, rfl⟩, rfl⟩, rfl, rfl⟩
  · simp only [B0_join_no hs] at hq
    cases hq
theorem words_at {w : World} {w1 : World} (h : WordsAt w) (hb : RowKit.Below w.heap.size w w1) : WordsAt w1 := by
  obtain ⟨b, off, c, h0, h1⟩ := h
  have hl : ∀ (x : Addr) v, w.cell? x = some v → w1.cell? x = some v := fun x v hx => by
    rw [← hx]
    refine World.cell?_of_block (hb.block _ ?_)
    unfold World.cell? at hx
    split at hx
    · rename_i harr
      exact (Array.getElem?_eq_some_iff.1 harr).1
    · cases hx
  exact ⟨b, off, c, hl _ _ h0, fun j hj => hl _ _ (h1 j hj)⟩
theorem own_walk (t : ByteArray) (w : World) (h : WordsAt w) : ∃ b off c, w.cell? ⟨0, 0, none⟩ = some (.slice (some ⟨b, off, none⟩) 6 c) ∧
    Calls Go.Proofs.Tryz.prog 58 #[.slice (some ⟨b, off, none⟩) 6 c, .string t] w fun e w' => e = .returned (.bool (Lib.containsS wordsB t)) ∧ w' = w := by
  obtain ⟨b, off, c, h0, h1⟩ := h
  exact ⟨b, off, c, h0, Go.Proofs.Tryz.slices_Contains_string b off 6 c wordsB t w (by decide) (by decide) h1⟩
theorem name_walk (t : ByteArray) (r : Bool) (w : World) (hw : WordsAt w) (hc : Calls Go.Proofs.Tryz.prog 60 #[.string t] w fun e w' => e = .returned (.bool r) ∧ RowKit.Below w.heap.size w w') :
    Calls Go.Proofs.Tryz.prog 31 #[.string t] w fun e w' => e = .returned (.bool (r && !Lib.containsS wordsB t)) ∧ RowKit.Below w.heap.size w w' := by
  have hcont : ∀ w1, RowKit.Below w.heap.size w w1 → ∃ b off c, w1.cell? ⟨0, 0, none⟩ = some (.slice (some ⟨b, off, none⟩) 6 c) ∧
      Calls Go.Proofs.Tryz.prog 58 #[.slice (some ⟨b, off, none⟩) 6 c, .string t] w1 fun e w' => e = .returned (.bool (Lib.containsS wordsB t)) ∧ w' = w1 := fun w1 hb => own_walk t w1 (words_at hw hb)
  clear hw
  generalize Lib.containsS wordsB t = d at hcont
  cases r with
  | false =>
    go_enter Go.Proofs.Tryz.func31, Go.Proofs.Tryz.ntmps31
    go_wp2_with (first | (go_at_call 60; refine hc.mono ?_; rintro e w1 ⟨rfl, hb⟩))
    go_ret
    exact ⟨rfl, hb⟩
  | true =>
    go_enter Go.Proofs.Tryz.func31, Go.Proofs.Tryz.ntmps31
    go_wp2_with (first | (go_at_call 60; refine hc.mono ?_; rintro e w1 ⟨rfl, hb⟩; obtain ⟨b, off, c, h0, h1⟩ := hcont w1 hb) | (go_at_call 58; refine h1.mono ?_; rintro e w2 ⟨rfl, hw2⟩; rw [hw2]))
    go_ret
    exact ⟨rfl, hb⟩
/-- the base without LangNameOk -/
noncomputable def B1 : Run := fun f key s => if f = 31 then fun _ => none else B0 f key s
theorem none_callOK {P : Program} {G : Glob} {f : FuncId} {s : Sig} : CallOK P G f ⟨s, fun _ => none⟩ := by
  intro w SA vs ps bs' ms p q hq
  cases hq
theorem base_only : (S.all fun p => (look F p.1).isSome || (Nat.beq p.1 125 || (Nat.beq p.1 113 || (Nat.beq p.1 164 || (Nat.beq p.1 166 || (Nat.beq p.1 193 || (Nat.beq p.1 62 || Nat.beq p.1 31))))))) = true := by kernel_rfl
theorem seat_OKof {G : Glob} (hG : Known G) (B : Run) (hB : ∀ f, f ≠ 31 → B f = B0 f) (h31 : ∀ key s, CallOK Go.Proofs.Tryz.prog G 31 ⟨s, B 31 key s⟩) : Prog.OK Go.Proofs.Tryz.prog G (C B) where
  T := seat_T
  mixed := by kernel_rfl
  F := seat_F
  B := fun f key s hf hS => by
    have h2 : f = 125 ∨ f = 113 ∨ f = 164 ∨ f = 166 ∨ f = 193 ∨ f = 62 ∨ f = 31 := by
      cases h : look S f with
      | none => exact absurd h hS
      | some l =>
        have := List.all_eq_true.1 base_only _ (look_mem h)
        simp only [Bool.or_eq_true, Nat.beq_eq] at this
        rcases this with h1 | h1
        · have hf' : look F f = none := hf
          rw [hf'] at h1; cases h1
        · exact h1
    rcases h2 with rfl | rfl | rfl | rfl | rfl | rfl | rfl
    · refine ⟨?_, Go.Proofs.Tryz.f125, Go.Proofs.Tryz.func125, by kernel_rfl, by kernel_rfl⟩
      show CallOK _ _ _ ⟨s, B 125 key s⟩
      rw [hB 125 (by decide)]
      exact clone_callOK _ key s
    · refine ⟨?_, Go.Proofs.Tryz.f113, Go.Proofs.Tryz.func113, by kernel_rfl, by kernel_rfl⟩
      show CallOK _ _ _ ⟨s, B 113 key s⟩
      rw [hB 113 (by decide)]
      exact itoa_callOK hG key s
    · refine ⟨?_, Go.Proofs.Tryz.f164, Go.Proofs.Tryz.func164, by kernel_rfl, by kernel_rfl⟩
      show CallOK _ _ _ ⟨s, B 164 key s⟩
      rw [hB 164 (by decide)]
      exact index_callOK _ key s
    · refine ⟨?_, Go.Proofs.Tryz.f166, Go.Proofs.Tryz.func166, by kernel_rfl, by kernel_rfl⟩
      show CallOK _ _ _ ⟨s, B 166 key s⟩
      rw [hB 166 (by decide)]
      exact ib_callOK _ key s
    · refine ⟨?_, Go.Proofs.Tryz.f193, Go.Proofs.Tryz.func193, by kernel_rfl, by kernel_rfl⟩
      show CallOK _ _ _ ⟨s, B 193 key s⟩
      rw [hB 193 (by decide)]
      exact atoi_callOK hG key s
    · refine ⟨?_, Go.Proofs.Tryz.f62, Go.Proofs.Tryz.func62, by kernel_rfl, by kernel_rfl⟩
      show CallOK _ _ _ ⟨s, B 62 key s⟩
      rw [hB 62 (by decide)]
      exact join_callOK _ key s
    · exact ⟨h31 key s, Go.Proofs.Tryz.f31, Go.Proofs.Tryz.func31, by kernel_rfl, by kernel_rfl⟩
theorem word_call {G : Glob} (hG : Known G) (t : ByteArray) (ht : t.size ≤ 4000000) (w : World) (hw : ∀ k o, G k = some o → w.heap[k]? = some o) :
    Calls Go.Proofs.Tryz.prog 60 #[.string t] w fun e w' => e = .returned (.bool (Pt.plain (chs t))) ∧ RowKit.Below w.heap.size w w' := by
  obtain ⟨N, hN⟩ := k_wordOkB (B := B1)
  have hrun := hN N (Nat.le_refl _) (chs t) (bl_chs t) (by rw [chs_len]; exact ht)
  rw [bs_chs] at hrun
  have hok := (Prog.sound (seat_OKof hG B1 (fun f hf => by funext key s; unfold B1; rw [if_neg hf]) (fun key s => by
    unfold B1
    rw [if_pos rfl]
    exact none_callOK)) N 60 [] sg_i_wordOk (by show look S 60 ≠ none; rw [show look S 60 = some [([], sg_i_wordOk)] from rfl]; simp)).1
  have hc := hok w Nope [.string t] [] [] [] (t, ()) (Pt.plain (chs t), ()) hrun
    ⟨⟨_, _, [], [], [], [], [], [], rfl, rfl, rfl, rfl, ⟨rfl, rfl, _, [], rfl, rfl, rfl, rfl⟩, rfl, rfl, rfl, rfl⟩, List.nodup_nil, fun k hk => hk.elim, fun k o' h => ⟨hw k o' h, by simp⟩⟩
  refine hc.mono fun e w' ⟨v, SF, us, b1, b2, he, H⟩ => ?_
  refine ⟨?_, H.os, H.tape, H.output, H.size, fun k hk => H.old k hk (by simp)⟩
  obtain ⟨v1, r, c1, c2, rfl, _, hone, rfl, _⟩ := H.outs
  rcases hone with ⟨h, _⟩ | ⟨_, us', ⟨v2, r2, hus, hrep, hr2⟩, hval⟩
  · cases h
  · obtain ⟨hr2, _⟩ := hr2
    have h2 : [v2] = [Value.bool (Pt.plain (chs t))] := hrep
    injection h2 with h2 _
    rw [he, H.val, hval, hus, hr2, h2]
    rfl
theorem words_in (t : ByteArray) : Lib.containsS wordsB t = decide (chs t ∈ Pt.words) := by
  rw [Bool.eq_iff_iff, Lib.containsS_iff, decide_eq_true_eq]
  have hb : ∀ l ∈ Pt.words, Bl l := by
    unfold Pt.words Bl
    decide
  unfold wordsB
  constructor
  · intro h
    obtain ⟨l, h1, rfl⟩ := List.mem_map.1 h
    rw [chs_bs (hb l h1)]
    exact h1
  · intro h
    exact List.mem_map.2 ⟨chs t, h, bs_chs t⟩
theorem name_callOK {G : Glob} (hG : Known G) (key : List Nat) (s : Sig) : CallOK Go.Proofs.Tryz.prog G 31 ⟨s, B0 31 key s⟩ := by
  intro w SA vs ps bs' ms p q hq hin
  by_cases hs : s = sg_i_LangNameOk
  · subst hs
    have hq' : nameRun p = some q := by rw [← B0_name key]; exact hq
    obtain ⟨t, u⟩ := p
    cases u
    change ByteArray at t
    have hq2 : (if 4000000 < t.size then none else some ((Pt.nameOk (chs t), ()) : Bool × Unit)) = some q := hq'
    obtain ⟨v, r, p1, p2, b1, b2, m1, m2, rfl, rfl, rfl, rfl, ⟨rfl, rfl, v', r', e1, hrep, rfl, rfl⟩, rfl, rfl, rfl, rfl⟩ := hin.args
    cases e1
    have h1 : [v] = [Value.string t] := hrep
    cases h1
    split at hq2
    · cases hq2
    · rename_i hsz
      cases hq2
      have hw : ∀ k o, G k = some o → w.heap[k]? = some o := fun k o h => (hin.glob k o h).1
      refine (name_walk t _ w (hG w hw).1 (word_call hG t (by omega) w hw)).mono fun e w' ⟨he, hb⟩ => ?_
      rw [words_in] at he
      refine ⟨_, Nope, [.bool (Pt.nameOk (chs t))], [], [], he, ⟨hb.os, hb.tape, hb.output, hb.size, fun k hk _ => hb.block k hk, fun k hk => hk.elim, ?_, rfl, ⟨rfl, rfl⟩, fun k hk => (by cases hk), fun k hk => (by cases hk), fun k hk => (by cases hk), List.nodup_nil⟩⟩
      exact ⟨_, [], [], [], rfl, rfl, .inr ⟨by decide, [_], ⟨_, [], rfl, rfl, rfl, rfl⟩, rfl⟩, rfl, rfl⟩
  · simp only [B0_name_no hs] at hq
    cases hq
theorem seat_OK {G : Glob} (hG : Known G) : Prog.OK Go.Proofs.Tryz.prog G (C B0) := seat_OKof hG B0 (fun _ _ => rfl) (name_callOK hG)
end Go.Px.Seat
