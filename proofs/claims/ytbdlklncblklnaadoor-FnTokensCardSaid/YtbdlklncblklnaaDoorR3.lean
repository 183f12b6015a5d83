/- The base of the calls: stringslite.Index of one byte, IndexByte, strconv.Atoi, by the library's contracts. Seat D. -/
import Derived.Test.YtbdlklncblklnaaDoorR1
import Derived.Test.YtbdlklncblklnaaDoorR2
import Derived.Test.YtbdlklncblklnaaDoorM1
set_option linter.unusedVariables false

namespace Go.Px.Seat
open Go Pt
set_option linter.unusedVariables false
theorem idx_indexByte (c : UInt8) : ∀ l : List UInt8, idx (l.map UInt8.toNat) c.toNat = Lib.indexByte l c
  | [] => rfl
  | b :: l => by
    have ih := idx_indexByte c l
    unfold Lib.indexByte
    rw [← ih]
    unfold idx
    rw [List.map_cons, List.takeWhile_cons]
    by_cases h : b = c
    · subst h
      rw [if_pos (List.mem_cons_self ..), show (b.toNat != b.toNat) = false from by simp, show (b == b) = true from by simp]
      rfl
    · have hn : b.toNat ≠ c.toNat := fun h' => h (UInt8.toNat_inj.1 h')
      have e1 : (b.toNat != c.toNat) = true := by simpa using hn
      have e2 : (b == c) = false := by simpa using h
      rw [e1, e2]
      simp only [Bool.false_eq_true, if_false, if_true, List.length_cons, List.mem_cons]
      by_cases hm : c.toNat ∈ l.map UInt8.toNat
      · rw [if_pos (.inr hm), if_pos hm, if_neg (by simp)]
        exact Int.natCast_succ _
      · rw [if_neg (fun h' => h'.elim (fun h => hn h.symm) hm), if_neg hm, if_pos (by simp)]
theorem idx_bytes (s : ByteArray) {c : Nat} (hc : c < 256) : Lib.indexByte s.data.toList (UInt8.ofNat c) = idx (chs s) c := by
  rw [← idx_indexByte]
  unfold chs
  rw [UInt8.toNat_ofNat', Nat.mod_eq_of_lt hc]
theorem index_callOK (G : Glob) (key : List Nat) (s : Sig) : CallOK Go.Proofs.Tryd.prog G 46 ⟨s, B0 46 key s⟩ := by
  intro w SA vs ps bs ms p q hq hin
  by_cases hs : s = sg_internal_stringslite_Index
  · subst hs
    have hq' : indexRun p = some q := by rw [← B0_index key]; exact hq
    obtain ⟨a, t, u⟩ := p
    cases u
    change ByteArray at a t
    have hq2 : (match chs t with | [c] => some ((idx (chs a) c, ()) : Int × Unit) | _ => none) = some q := hq'
    obtain ⟨v, r, p1, p2, b1, b2, m1, m2, rfl, rfl, rfl, rfl, ⟨rfl, rfl, v', r', e1, hrep, rfl, rfl⟩, v2, r2, p1', p2', b1', b2', m1', m2', rfl, rfl, rfl, rfl, ⟨rfl, rfl, v2', r2', e2, hrep2, rfl, rfl⟩, rfl, rfl, rfl, rfl⟩ := hin.args
    cases e1
    cases e2
    have h1 : [v] = [Value.string a] := hrep
    have h2 : [v2] = [Value.string t] := hrep2
    cases h1
    cases h2
    split at hq2
    · rename_i c hc
      cases hq2
      have hlt : c < 256 := chs_lt (s := t) (by rw [hc]; exact List.mem_singleton.2 rfl)
      have ht : t = ⟨#[UInt8.ofNat c]⟩ := by rw [← bs_chs t, hc]; rfl
      subst ht
      refine (Go.Proofs.Tryd.stringslite_Index_one a (UInt8.ofNat c) w).mono fun e w' ⟨he, hw⟩ => ?_
      subst hw
      refine ⟨_, Nope, [_], [], [], he, ⟨rfl, rfl, rfl, Nat.le_refl _, fun k _ _ => rfl, fun k hk => hk.elim, ?_, rfl, ⟨rfl, rfl⟩, fun k hk => (by cases hk), fun k hk => (by cases hk), fun k hk => (by cases hk), List.nodup_nil⟩⟩
      refine ⟨_, [], [], [], rfl, rfl, .inr ⟨by decide, [_], ⟨_, [], rfl, ?_, rfl, rfl⟩, rfl⟩, rfl, rfl⟩
      show [Value.int .i64 _] = [Value.int .i64 _]
      rw [idx_bytes a hlt]
      rfl
    · cases hq2
  · simp only [B0_index_no hs] at hq
    cases hq
theorem ib_callOK (G : Glob) (key : List Nat) (s : Sig) : CallOK Go.Proofs.Tryd.prog G 48 ⟨s, B0 48 key s⟩ := by
  intro w SA vs ps bs ms p q hq hin
  by_cases hs : s = sg_internal_stringslite_IndexByte
  · subst hs
    have hq' : ibRun p = some q := by rw [← B0_ib key]; exact hq
    obtain ⟨a, c, u⟩ := p
    cases u
    change ByteArray at a
    change Int at c
    have hq2 : (if 0 ≤ c ∧ c < 256 then some ((idx (chs a) c.toNat, ()) : Int × Unit) else none) = some q := hq'
    obtain ⟨v, r, p1, p2, b1, b2, m1, m2, rfl, rfl, rfl, rfl, ⟨rfl, rfl, v', r', e1, hrep, rfl, rfl⟩, v2, r2, p1', p2', b1', b2', m1', m2', rfl, rfl, rfl, rfl, ⟨rfl, rfl, v2', r2', e2, hrep2, rfl, rfl⟩, rfl, rfl, rfl, rfl⟩ := hin.args
    cases e1
    cases e2
    have h1 : [v] = [Value.string a] := hrep
    have h2 : [v2] = [Value.int .u8 c] := hrep2
    cases h1
    cases h2
    split at hq2
    · rename_i hc
      cases hq2
      refine (Go.Proofs.Tryd.stringslite_IndexByte a c w).mono fun e w' ⟨he, hw⟩ => ?_
      subst hw
      refine ⟨_, Nope, [_], [], [], he, ⟨rfl, rfl, rfl, Nat.le_refl _, fun k _ _ => rfl, fun k hk => hk.elim, ?_, rfl, ⟨rfl, rfl⟩, fun k hk => (by cases hk), fun k hk => (by cases hk), fun k hk => (by cases hk), List.nodup_nil⟩⟩
      refine ⟨_, [], [], [], rfl, rfl, .inr ⟨by decide, [_], ⟨_, [], rfl, ?_, rfl, rfl⟩, rfl⟩, rfl, rfl⟩
      show [Value.int .i64 (Lib.indexByte a.data.toList (UInt8.ofNat c.toNat))] = [Value.int .i64 _]
      rw [idx_bytes a (show c.toNat < 256 by omega)]
      rfl
    · cases hq2
  · simp only [B0_ib_no hs] at hq
    cases hq
/-- an error variable that holds an error, or none -/
def IfAt (g : Nat) (w : World) : Prop := ∃ ev, w.cell? ⟨g, 0, none⟩ = some ev ∧ (ev = .nilIface ∨ ∃ te pe, ev = .iface te pe)
def errG (o1 o2 : Obj) : Glob := fun k => if k = 1 then some o1 else if k = 2 then some o2 else none
theorem atoi_out {w w' : World} (SA : Nat → Prop) (x : Int) (b : Bool) (ve : Value) (hv : (b = false ∧ ve = .nilIface) ∨ (b = true ∧ ∃ t y, ve = .iface t y)) (hb : RowKit.Below w.heap.size w w') :
    OutOK w SA [] [] [] sg_strconv_Atoi ((x, (b, ())) : Int × (Bool × Unit)) (.tuple #[.int .i64 x, ve]) w' Nope [.int .i64 x, ve] [] [] := by
  refine ⟨hb.os, hb.tape, hb.output, hb.size, fun k hk _ => hb.block k hk, fun k hk => hk.elim, ?_, rfl, ⟨rfl, rfl⟩, fun k hk => (by cases hk), fun k hk => (by cases hk), fun k hk => (by cases hk), List.nodup_nil⟩
  refine ⟨_, [ve], [], [], rfl, rfl, .inr ⟨by decide, [_], ⟨_, [], rfl, rfl, rfl, rfl⟩, rfl⟩, _, [], [], [], rfl, rfl, .inr ⟨by decide, [_], ⟨_, [], rfl, ?_, rfl, rfl⟩, rfl⟩, rfl, rfl⟩
  rcases hv with ⟨rfl, rfl⟩ | ⟨rfl, t, y, rfl⟩
  · exact .inl ⟨rfl, rfl⟩
  · exact .inr ⟨rfl, t, y, rfl⟩
theorem atoi_callOK (o1 o2 : Obj) (ho1 : ∀ w : World, w.heap[1]? = some o1 → IfAt 1 w) (ho2 : ∀ w : World, w.heap[2]? = some o2 → IfAt 2 w) (key : List Nat) (s : Sig) : CallOK Go.Proofs.Tryd.prog (errG o1 o2) 52 ⟨s, B0 52 key s⟩ := by
  intro w SA vs ps bs ms p q hq hin
  by_cases hs : s = sg_strconv_Atoi
  · subst hs
    have hq' : atoiRun p = some q := by rw [← B0_atoi key]; exact hq
    obtain ⟨a, u⟩ := p
    cases u
    change ByteArray at a
    have hq2 : (if 100000 < a.size then none else match Lib.atoiAll a.data.toList with
      | .ok v => some (((v : Int), ((false : Bool), ())) : Int × (Bool × Unit))
      | .range => some (Lib.atoiSat a.data.toList, ((true : Bool), ()))
      | _ => some ((0 : Int), ((true : Bool), ()))) = some q := hq'
    obtain ⟨v, r, p1, p2, b1, b2, m1, m2, rfl, rfl, rfl, rfl, ⟨rfl, rfl, v', r', e1, hrep, rfl, rfl⟩, rfl, rfl, rfl, rfl⟩ := hin.args
    cases e1
    have h1 : [v] = [Value.string a] := hrep
    cases h1
    obtain ⟨ev1, hc1, hv1⟩ := ho1 w (hin.glob 1 o1 rfl).1
    obtain ⟨ev2, hc2, hv2⟩ := ho2 w (hin.glob 2 o2 rfl).1
    split at hq2
    · cases hq2
    · rename_i hsz
      rcases hx : Lib.atoiAll a.data.toList with x | _ | _
      · rw [hx] at hq2
        cases hq2
        refine (Go.Proofs.Tryd.strconv_Atoi_ok a (by omega) x hx w).mono fun e w' ⟨he, hw⟩ => ?_
        refine ⟨_, Nope, _, [], [], he, atoi_out SA x false .nilIface (.inl ⟨rfl, rfl⟩) ?_⟩
        rcases hw with rfl | ⟨t, rfl⟩
        · exact RowKit.Below.refl _ _
        · exact Lib.bytesWorld_below _ _ _
      · rw [hx] at hq2
        cases hq2
        exact (Go.Proofs.Any.strconv_Atoi_syntax Go.Proofs.Tryd.laysC172 a (by omega) hx ev1 w hc1 hv1).mono fun e w' ⟨N, he, _, _, hb⟩ =>
          ⟨_, Nope, _, [], [], he, atoi_out SA 0 true _ (.inr ⟨rfl, _, _, rfl⟩) hb⟩
      · rw [hx] at hq2
        cases hq2
        exact (Go.Proofs.Tryd.strconv_Atoi_range a (by omega) hx ev2 w hc2 hv2).mono fun e w' ⟨N, he, _, _, hb⟩ =>
          ⟨_, Nope, _, [], [], he, atoi_out SA _ true _ (.inr ⟨rfl, _, _, rfl⟩) hb⟩
  · simp only [B0_atoi_no hs] at hq
    cases hq
theorem base_only : (S.all fun p => (look F p.1).isSome || (Nat.beq p.1 46 || (Nat.beq p.1 48 || Nat.beq p.1 52))) = true := by kernel_rfl
theorem seat_OK (o1 o2 : Obj) (ho1 : ∀ w : World, w.heap[1]? = some o1 → IfAt 1 w) (ho2 : ∀ w : World, w.heap[2]? = some o2 → IfAt 2 w) : Prog.OK Go.Proofs.Tryd.prog (errG o1 o2) (C B0) where
  T := seat_T
  mixed := by kernel_rfl
  F := seat_F
  B := fun f key s hf hS => by
    have h2 : f = 46 ∨ f = 48 ∨ f = 52 := by
      cases h : look S f with
      | none => exact absurd h hS
      | some l =>
        have := List.all_eq_true.1 base_only _ (look_mem h)
        simp only [Bool.or_eq_true, Nat.beq_eq] at this
        rcases this with h1 | h1
        · have hf' : look F f = none := hf
          rw [hf'] at h1; cases h1
        · exact h1
    rcases h2 with rfl | rfl | rfl
    · exact ⟨index_callOK _ key s, Go.Proofs.Tryd.f46, Go.Proofs.Tryd.func46, by kernel_rfl, by kernel_rfl⟩
    · exact ⟨ib_callOK _ key s, Go.Proofs.Tryd.f48, Go.Proofs.Tryd.func48, by kernel_rfl, by kernel_rfl⟩
    · exact ⟨atoi_callOK o1 o2 ho1 ho2 key s, Go.Proofs.Tryd.f52, Go.Proofs.Tryd.func52, by kernel_rfl, by kernel_rfl⟩
end Go.Px.Seat
