/- The base of the calls. Seat G. -/
import Derived.Test.YtmmggkldldbomaaGreatDoorR1
import Derived.Test.YtmmggkldldbomaaGreatDoorR4
import Derived.Test.YtmmggkldldbomaaGreatDoorR6
import Derived.Test.YtmmggkldldbomaaGreatDoorM2
import Derived.WalkKit
import Derived.Lib.LazyBuf
import Derived.Lib.SlicesS
set_option linter.unusedVariables false
namespace Go.Px.Seat
open Go Pt
theorem tl (c : UInt8) : ∀ l : List UInt8, idx (l.map UInt8.toNat) c.toNat = Lib.indexByte l c
 | [] => rfl
 | b :: l => by
  have ih := tl c l
  unfold Lib.indexByte
  rw [← ih]
  unfold idx
  rw [List.map_cons, List.takeWhile_cons]
  by_cases h : b = c
  ·subst h
   rw [if_pos (List.mem_cons_self ..), show (b.toNat != b.toNat) = false from by simp, show (b == b) = true from by simp]
   rfl
  ·have hn : b.toNat ≠ c.toNat := fun h' => h (UInt8.toNat_inj.1 h')
   have e1 : (b.toNat != c.toNat) = true := by simpa using hn
   have e2 : (b == c) = false := by simpa using h
   rw [e1, e2]
   simp only [Bool.false_eq_true, if_false, if_true, List.length_cons, List.mem_cons]
   by_cases hm : c.toNat ∈ l.map UInt8.toNat
   ·rw [if_pos (.inr hm), if_pos hm, if_neg (by simp)]
    exact Int.natCast_succ _
   ·rw [if_neg (fun h' => h'.elim (fun h => hn h.symm) hm), if_neg hm, if_pos (by simp)]
theorem Jc (s : ByteArray) {c : Nat} (hc : c < 256) : Lib.indexByte s.data.toList (UInt8.ofNat c) = idx (pV s) c := by
 rw [← tl]
 unfold pV
 rw [UInt8.toNat_ofNat', Nat.mod_eq_of_lt hc]
theorem KX (G : gl) : bU Go.Proofs.Tryz.prog G 207 ⟨aM, re⟩ := by
 intro w SA N0 vs ps bs ms p q hq hin
 obtain ⟨a, t, u⟩ := p
 cases u
 change ByteArray at a t
 have hq2 : (match pV t with | [c] => some ((idx (pV a) c, ()) : Int × Unit) | _ => none) = some q := hq
 obtain ⟨mA, mB, rfl, ⟨v, r, p1, p2, b1, b2, m1, m2, rfl, rfl, rfl, rfl, ⟨rfl, rfl, v', r', e1, hrep, rfl, rfl⟩, v2, r2, p1', p2', b1', b2', m1', m2', rfl, rfl, rfl, rfl, ⟨rfl, rfl, v2', r2', e2, hrep2, rfl, rfl⟩, rfl, rfl, rfl, rfl⟩, hmB⟩ := hin.args
 cases e1
 cases e2
 have h1 : [v] = [Value.string a] := hrep
 have h2 : [v2] = [Value.string t] := hrep2
 cases h1
 cases h2
 split at hq2
 ·rename_i c hc
  cases hq2
  have hlt : c < 256 := JY (s := t) (by rw [hc]; exact List.mem_singleton.2 rfl)
  have ht : t = ⟨#[UInt8.ofNat c]⟩ := by rw [← wi t, hc]; rfl
  subst ht
  refine (Go.Proofs.Tryz.stringslite_Index_one a (UInt8.ofNat c) w).mono fun e w' ⟨he, hw⟩ => ?_
  subst hw
  refine ⟨_, N0, [_], [], [], he, ⟨rfl, rfl, rfl, Nat.le_refl _, fun k _ _ => rfl, fun k hk => (hin.n0 k hk).elim, fun l h => h, ⟨[], [], rfl, ?_, rfl⟩, rfl, ⟨rfl, rfl⟩, fun k hk => (by cases hk), fun k hk => (by cases hk), fun k hk => (by cases hk), List.nodup_nil⟩⟩
  refine ⟨_, [], [], [], rfl, rfl, .inr ⟨by decide, [_], ⟨_, [], rfl, ?_, rfl, rfl⟩, rfl⟩, rfl, rfl⟩
  show [Value.int .i64 _] = [Value.int .i64 _]
  rw [Jc a hlt]
  rfl
 ·cases hq2
def jd : List ByteArray := Pt.words.map bs
def lH (w : World) : Prop := ∃ b off c, w.cell? ⟨0, 0, none⟩ = some (.slice (some ⟨b, off, none⟩) 6 c) ∧ ∀ j, j < jd.length → w.cell? ⟨b, off + j, none⟩ = some (.string (jd.getD j ByteArray.empty))
def Ae (g : Nat) (w : World) : Prop := ∃ ev, w.cell? ⟨g, 0, none⟩ = some ev ∧ (ev = .nilIface ∨ ∃ te pe, ev = .iface te pe)
def lb (G : gl) : Prop := ∀ w : World, (∀ k o, G k = some o → w.heap[k]? = some o) → lH w ∧ Ae 2 w ∧ Ae 3 w
theorem Af {w w' : World} {N0 : Loc → Prop} (hn : ∀ k : Nat, ¬ N0 k) (SA : Nat → Prop) (x : Int) (b : Bool) (ve : Value) (hv : (b = false ∧ ve = .nilIface) ∨ (b = true ∧ ∃ t y, ve = .iface t y)) (hb : RowKit.Below w.heap.size w w') :
  sy w SA N0 [] ([] ++ []) [] cq ((x, (b, ())) : Int × (Bool × Unit)) (.tuple #[.int .i64 x, ve]) w' N0 [.int .i64 x, ve] [] [] := by
 refine ⟨hb.os, hb.tape, hb.output, hb.size, fun k hk _ => hb.block k hk, fun k hk => (hn k hk).elim, fun l h => h, ⟨[], [], rfl, ?_, rfl⟩, rfl, ⟨rfl, rfl⟩, fun k hk => (by cases hk), fun k hk => (by cases hk), fun k hk => (by cases hk), List.nodup_nil⟩
 refine ⟨_, [ve], [], [], rfl, rfl, .inr ⟨by decide, [_], ⟨_, [], rfl, rfl, rfl, rfl⟩, rfl⟩, _, [], [], [], rfl, rfl, .inr ⟨by decide, [_], ⟨_, [], rfl, ?_, rfl, rfl⟩, rfl⟩, rfl, rfl⟩
 rcases hv with ⟨rfl, rfl⟩ | ⟨rfl, t, y, rfl⟩
 ·exact .inl ⟨rfl, rfl⟩
 ·exact .inr ⟨rfl, t, y, rfl⟩
theorem Nk {G : gl} (hG : lb G) : bU Go.Proofs.Tryz.prog G 195 ⟨cq, vb⟩ := by
 intro w SA N0 vs ps bs ms p q hq hin
 obtain ⟨a, u⟩ := p
 cases u
 change ByteArray at a
 have hq2 : (if 4000000 < a.size then none else match Lib.atoiAll a.data.toList with
  | .ok v => some (((v : Int), ((false : Bool), ())) : Int × (Bool × Unit))
  | .range => some (Lib.atoiSat a.data.toList, ((true : Bool), ()))
  | _ => some ((0 : Int), ((true : Bool), ()))) = some q := hq
 obtain ⟨mA, mB, rfl, ⟨v, r, p1, p2, b1, b2, m1, m2, rfl, rfl, rfl, rfl, ⟨rfl, rfl, v', r', e1, hrep, rfl, rfl⟩, rfl, rfl, rfl, rfl⟩, hmB⟩ := hin.args
 cases e1
 change mB = [] at hmB
 subst hmB
 have h1 : [v] = [Value.string a] := hrep
 cases h1
 have hk := hG w fun k o h => (hin.Lq k o h).1
 obtain ⟨ev1, hc1, hv1⟩ := hk.2.1
 obtain ⟨ev2, hc2, hv2⟩ := hk.2.2
 split at hq2
 ·cases hq2
 ·rename_i hsz
  rcases hx : Lib.atoiAll a.data.toList with x | _ | _
  ·rw [hx] at hq2
   cases hq2
   refine (Go.Proofs.Tryz.strconv_Atoi_ok a (by omega) x hx w).mono fun e w' ⟨he, hw⟩ => ?_
   refine ⟨_, N0, _, [], [], he, Af hin.n0 SA x false .nilIface (.inl ⟨rfl, rfl⟩) ?_⟩
   rcases hw with rfl | ⟨t, rfl⟩
   ·exact RowKit.Below.refl _ _
   ·exact Lib.bytesWorld_below _ _ _
  ·rw [hx] at hq2
   cases hq2
   exact (Go.Proofs.Any.strconv_Atoi_syntax Go.Proofs.Tryz.Ad a (by omega) hx ev1 w hc1 hv1).mono fun e w' ⟨N, he, _, _, hb⟩ =>
    ⟨_, N0, _, [], [], he, Af hin.n0 SA 0 true _ (.inr ⟨rfl, _, _, rfl⟩) hb⟩
  ·rw [hx] at hq2
   cases hq2
   exact (Go.Proofs.Tryz.strconv_Atoi_range a (by omega) hx ev2 w hc2 hv2).mono fun e w' ⟨N, he, _, _, hb⟩ =>
    ⟨_, N0, _, [], [], he, Af hin.n0 SA _ true _ (.inr ⟨rfl, _, _, rfl⟩) hb⟩
theorem KY {w : World} {w1 : World} (h : lH w) (hb : RowKit.Below w.heap.size w w1) : lH w1 := by
 obtain ⟨b, off, c, h0, h1⟩ := h
 have hl : ∀ (x : Addr) v, w.cell? x = some v → w1.cell? x = some v := fun x v hx => by
  rw [← hx]
  refine World.cell?_of_block (hb.block _ ?_)
  unfold World.cell? at hx
  split at hx
  ·rename_i harr
   exact (Array.getElem?_eq_some_iff.1 harr).1
  ·cases hx
 exact ⟨b, off, c, hl _ _ h0, fun j hj => hl _ _ (h1 j hj)⟩
theorem KZ (t : ByteArray) (w : World) (h : lH w) : ∃ b off c, w.cell? ⟨0, 0, none⟩ = some (.slice (some ⟨b, off, none⟩) 6 c) ∧
  Calls Go.Proofs.Tryz.prog 37 #[.slice (some ⟨b, off, none⟩) 6 c, .string t] w fun e w' => e = .returned (.bool (Lib.containsS jd t)) ∧ w' = w := by
 obtain ⟨b, off, c, h0, h1⟩ := h
 exact ⟨b, off, c, h0, Go.Proofs.Tryz.slices_Contains_string b off 6 c jd t w (by decide) (by decide) h1⟩
theorem Jd (t : ByteArray) (r : Bool) (w : World) (hw : lH w) (hc : Calls Go.Proofs.Tryz.prog 83 #[.string t] w fun e w' => e = .returned (.bool r) ∧ RowKit.Below w.heap.size w w') :
  Calls Go.Proofs.Tryz.prog 36 #[.string t] w fun e w' => e = .returned (.bool (r && !Lib.containsS jd t)) ∧ RowKit.Below w.heap.size w w' := by
 have hcont : ∀ w1, RowKit.Below w.heap.size w w1 → ∃ b off c, w1.cell? ⟨0, 0, none⟩ = some (.slice (some ⟨b, off, none⟩) 6 c) ∧
   Calls Go.Proofs.Tryz.prog 37 #[.slice (some ⟨b, off, none⟩) 6 c, .string t] w1 fun e w' => e = .returned (.bool (Lib.containsS jd t)) ∧ w' = w1 := fun w1 hb => KZ t w1 (KY hw hb)
 clear hw
 generalize Lib.containsS jd t = d at hcont
 cases r with
 | false =>
  go_enter Go.Proofs.Tryz.func36, Go.Proofs.Tryz.ntmps36
  go_wp2_with (first | (go_at_call 83; refine hc.mono ?_; rintro e w1 ⟨rfl, hb⟩))
  go_ret
  exact ⟨rfl, hb⟩
 | true =>
  go_enter Go.Proofs.Tryz.func36, Go.Proofs.Tryz.ntmps36
  go_wp2_with (first | (go_at_call 83; refine hc.mono ?_; rintro e w1 ⟨rfl, hb⟩; obtain ⟨b, off, c, h0, h1⟩ := hcont w1 hb) | (go_at_call 37; refine h1.mono ?_; rintro e w2 ⟨rfl, hw2⟩; rw [hw2]))
  go_ret
  exact ⟨rfl, hb⟩
theorem Je (G : gl) : bU Go.Proofs.Tryz.prog G 130 ⟨av, rN⟩ :=
 Ac (et := 59) (t := (.cons .str (.cons (.aI 9 .str) (.cons (.cons (.aI 73 (.cons (.int .i64) (.cons (.int .i64) (.cons .str .nil)))) .nil) .nil)))) (ms := ey) (fun ad n cap w us => AJ ad n cap w us) (fun q => q.1) fun w SA N0 q b ⟨b1, b2, _, M, _⟩ => M
theorem Jf (G : gl) : bU Go.Proofs.Tryz.prog G 133 ⟨aw, rO⟩ :=
 Ac (et := 57) (t := (.cons (.int .i64) (.cons (.cons (.aI 73 (.cons (.int .i64) (.cons (.int .i64) (.cons .str .nil)))) .nil) (.cons (.cons (.aI 73 (.cons (.int .i64) (.cons (.int .i64) (.cons .str .nil)))) .nil) .nil)))) (ms := ey) (fun ad n cap w us => AK ad n cap w us) (fun q => q.2.1) fun w SA N0 q b ⟨b1, b2, _, _, _, b3, b4, _, M, _⟩ => M
theorem K0 (G : gl) : bU Go.Proofs.Tryz.prog G 107 ⟨aR, zQ⟩ :=
 ET (i0 := Go.Proofs.Tryz.t9) (z := .string ByteArray.empty) (fun base l c n w => Go.Proofs.Any8.slices_Grow_room Go.Proofs.Tryz.NJ base l c n w) (fun base l c n cs w => Go.Proofs.Any8.slices_Grow_grow Go.Proofs.Tryz.NJ Go.Proofs.Tryz.t9 (.string ByteArray.empty) (by kernel_rfl) (by kernel_rfl) (by decide) base l c n cs w) rfl rfl (by decide)
theorem K2 (G : gl) : bU Go.Proofs.Tryz.prog G 144 ⟨ay, vc⟩ :=
 ET (i0 := Go.Proofs.Tryz.t73) (z := .agg #[.int .i64 0, .int .i64 0, .string ByteArray.empty]) (fun base l c n w => Go.Proofs.Any8.slices_Grow_room Go.Proofs.Tryz.NK base l c n w) (fun base l c n cs w => Go.Proofs.Any8.slices_Grow_grow Go.Proofs.Tryz.NK Go.Proofs.Tryz.t73 (.agg #[.int .i64 0, .int .i64 0, .string ByteArray.empty]) (by kernel_rfl) (by kernel_rfl) (by decide) base l c n cs w) rfl rfl (by decide)
theorem dm {P : Program} {G : gl} {f : FuncId} {s : bh} : bU P G f ⟨s, fun _ => none⟩ := by
 intro w SA N0 vs ps bs' ms p q hq
 cases hq
theorem Dc {G : gl} (hG : lb G) (key : List Nat) (s : bh) : bU Go.Proofs.Tryz.prog G 207 ⟨s, B0 207 key s⟩ := by
 by_cases hs : s = aM
 ·subst hs
  rw [Ee key]
  exact KX _
 ·rw [Ef hs]
  exact dm
theorem EZ {G : gl} (hG : lb G) (key : List Nat) (s : bh) : bU Go.Proofs.Tryz.prog G 195 ⟨s, B0 195 key s⟩ := by
 by_cases hs : s = cq
 ·subst hs
  rw [GM key]
  exact Nk hG
 ·rw [FP hs]
  exact dm
theorem AN {G : gl} (hG : lb G) (key : List Nat) (s : bh) : bU Go.Proofs.Tryz.prog G 131 ⟨s, B0 131 key s⟩ := by
 by_cases hs : s = aO
 ·subst hs
  rw [Bc key]
  exact xp (fun ad n cap w us => AL ad n cap w us) rfl
 ·rw [Cl hs]
  exact dm
theorem AO {G : gl} (hG : lb G) (key : List Nat) (s : bh) : bU Go.Proofs.Tryz.prog G 135 ⟨s, B0 135 key s⟩ := by
 by_cases hs : s = aA
 ·subst hs
  rw [Bd key]
  exact xp (fun ad n cap w us => AM ad n cap w us) rfl
 ·rw [Cm hs]
  exact dm
theorem AP {G : gl} (hG : lb G) (key : List Nat) (s : bh) : bU Go.Proofs.Tryz.prog G 130 ⟨s, B0 130 key s⟩ := by
 by_cases hs : s = av
 ·subst hs
  rw [Be key]
  exact Je _
 ·rw [Cn hs]
  exact dm
theorem AQ {G : gl} (hG : lb G) (key : List Nat) (s : bh) : bU Go.Proofs.Tryz.prog G 133 ⟨s, B0 133 key s⟩ := by
 by_cases hs : s = aw
 ·subst hs
  rw [Bf key]
  exact Jf _
 ·rw [Co hs]
  exact dm
theorem Dd {G : gl} (hG : lb G) (key : List Nat) (s : bh) : bU Go.Proofs.Tryz.prog G 107 ⟨s, B0 107 key s⟩ := by
 by_cases hs : s = aR
 ·subst hs
  rw [J2 key]
  exact K0 _
 ·rw [Eg hs]
  exact dm
theorem De {G : gl} (hG : lb G) (key : List Nat) (s : bh) : bU Go.Proofs.Tryz.prog G 144 ⟨s, B0 144 key s⟩ := by
 by_cases hs : s = ay
 ·subst hs
  rw [Eh key]
  exact K2 _
 ·rw [Ei hs]
  exact dm
theorem E0 {G : gl} (hG : lb G) (key : List Nat) (s : bh) : bU Go.Proofs.Tryz.prog G 161 ⟨s, B0 161 key s⟩ := by
 by_cases hs : s = aH
 ·subst hs
  rw [GO key]
  exact Ni _
 ·rw [FR hs]
  exact dm
theorem E1 {G : gl} (hG : lb G) (key : List Nat) (s : bh) : bU Go.Proofs.Tryz.prog G 162 ⟨s, B0 162 key s⟩ := by
 by_cases hs : s = az
 ·subst hs
  rw [GP key]
  exact Nj _
 ·rw [FT hs]
  exact dm
noncomputable def B1 : ax := fun f key s => if f = 36 then fun _ => none else B0 f key s
theorem Jg : (S.all fun p => (look F p.1).isSome || (Nat.beq p.1 207 || Nat.beq p.1 195 || Nat.beq p.1 131 || Nat.beq p.1 135 || Nat.beq p.1 130 || Nat.beq p.1 133 || Nat.beq p.1 107 || Nat.beq p.1 144 || Nat.beq p.1 161 || Nat.beq p.1 162 || Nat.beq p.1 36)) = true := by kernel_rfl
theorem Br {G : gl} (hG : lb G) (B : ax) (hB : ∀ f, f ≠ 36 → B f = B0 f) (h36 : ∀ key s, bU Go.Proofs.Tryz.prog G 36 ⟨s, B 36 key s⟩) : Prog.OK Go.Proofs.Tryz.prog G (C B) where
 T := KU
 T2 := fun k => by
  show mL _ (md k).2
  unfold md
  cases Nat.beq k 59 with
  | true => exact IZ
  | false => cases Nat.beq k 4 with
   | true => exact I0
   | false => cases Nat.beq k 9 with
    | true => exact I8
    | false => exact KU
 mixed := by kernel_rfl
 F := PW
 B := fun f key s hf hS => by
  have h2 : f = 207 ∨ f = 195 ∨ f = 131 ∨ f = 135 ∨ f = 130 ∨ f = 133 ∨ f = 107 ∨ f = 144 ∨ f = 161 ∨ f = 162 ∨ f = 36 := by
   cases h : look S f with
   | none => exact absurd h hS
   | some l =>
    have := List.all_eq_true.1 Jg _ (bW h)
    simp only [Bool.or_eq_true, Nat.beq_eq] at this
    rcases this with h1 | h1
    ·have hf' : look F f = none := hf
     rw [hf'] at h1; cases h1
    ·simpa only [or_assoc] using h1
  rcases h2 with rfl | rfl | rfl | rfl | rfl | rfl | rfl | rfl | rfl | rfl | rfl
  ·refine ⟨?_, Go.Proofs.Tryz.f207, Go.Proofs.Tryz.func207, by kernel_rfl, by kernel_rfl⟩
   show bU _ _ _ ⟨s, B 207 key s⟩
   rw [hB 207 (by decide)]
   exact Dc hG key s
  ·refine ⟨?_, Go.Proofs.Tryz.f195, Go.Proofs.Tryz.func195, by kernel_rfl, by kernel_rfl⟩
   show bU _ _ _ ⟨s, B 195 key s⟩
   rw [hB 195 (by decide)]
   exact EZ hG key s
  ·refine ⟨?_, Go.Proofs.Tryz.f131, Go.Proofs.Tryz.func131, by kernel_rfl, by kernel_rfl⟩
   show bU _ _ _ ⟨s, B 131 key s⟩
   rw [hB 131 (by decide)]
   exact AN hG key s
  ·refine ⟨?_, Go.Proofs.Tryz.f135, Go.Proofs.Tryz.func135, by kernel_rfl, by kernel_rfl⟩
   show bU _ _ _ ⟨s, B 135 key s⟩
   rw [hB 135 (by decide)]
   exact AO hG key s
  ·refine ⟨?_, Go.Proofs.Tryz.f130, Go.Proofs.Tryz.func130, by kernel_rfl, by kernel_rfl⟩
   show bU _ _ _ ⟨s, B 130 key s⟩
   rw [hB 130 (by decide)]
   exact AP hG key s
  ·refine ⟨?_, Go.Proofs.Tryz.f133, Go.Proofs.Tryz.func133, by kernel_rfl, by kernel_rfl⟩
   show bU _ _ _ ⟨s, B 133 key s⟩
   rw [hB 133 (by decide)]
   exact AQ hG key s
  ·refine ⟨?_, Go.Proofs.Tryz.f107, Go.Proofs.Tryz.func107, by kernel_rfl, by kernel_rfl⟩
   show bU _ _ _ ⟨s, B 107 key s⟩
   rw [hB 107 (by decide)]
   exact Dd hG key s
  ·refine ⟨?_, Go.Proofs.Tryz.f144, Go.Proofs.Tryz.func144, by kernel_rfl, by kernel_rfl⟩
   show bU _ _ _ ⟨s, B 144 key s⟩
   rw [hB 144 (by decide)]
   exact De hG key s
  ·refine ⟨?_, Go.Proofs.Tryz.f161, Go.Proofs.Tryz.func161, by kernel_rfl, by kernel_rfl⟩
   show bU _ _ _ ⟨s, B 161 key s⟩
   rw [hB 161 (by decide)]
   exact E0 hG key s
  ·refine ⟨?_, Go.Proofs.Tryz.f162, Go.Proofs.Tryz.func162, by kernel_rfl, by kernel_rfl⟩
   show bU _ _ _ ⟨s, B 162 key s⟩
   rw [hB 162 (by decide)]
   exact E1 hG key s
  ·exact ⟨h36 key s, Go.Proofs.Tryz.f36, Go.Proofs.Tryz.func36, by kernel_rfl, by kernel_rfl⟩
theorem Jh {G : gl} (hG : lb G) (t : ByteArray) (ht : t.size ≤ 4000000) (w : World) (hw : ∀ k o, G k = some o → w.heap[k]? = some o) :
  Calls Go.Proofs.Tryz.prog 83 #[.string t] w fun e w' => e = .returned (.bool (Pt.plain (pV t))) ∧ RowKit.Below w.heap.size w w' := by
 obtain ⟨N, hN⟩ := Iu (B := B1)
 have hrun := hN N (Nat.le_refl _) (pV t) (zM t) (by rw [u9]; exact ht)
 rw [wi] at hrun
 have hok := (Prog.sound (Br hG B1 (fun f hf => by funext key s; unfold B1; rw [if_neg hf]) (fun key s => by
  unfold B1
  rw [if_pos rfl]
  exact dm)) N 83 [] nf (by show look S 83 ≠ none; rw [show look S 83 = some [([], nf)] from rfl]; simp)).1
 have hc := hok w (fun _ => False) y5 [.string t] [] [] [] (t, ()) (Pt.plain (pV t), ()) hrun
  ⟨⟨[], [], rfl, ⟨_, _, [], [], [], [], [], [], rfl, rfl, rfl, rfl, ⟨rfl, rfl, _, [], rfl, rfl, rfl, rfl⟩, rfl, rfl, rfl, rfl⟩, rfl⟩, fun k hk => hk, List.nodup_nil, fun k hk => hk.elim, fun k o' h => ⟨hw k o' h, by simp⟩⟩
 refine hc.mono fun e w' ⟨v, SF, us, b1, b2, he, H⟩ => ?_
 refine ⟨?_, H.os, H.tape, H.output, H.size, fun k hk => H.sr k hk (by simp)⟩
 obtain ⟨b0, b3, _, ⟨v1, r, c1, c2, rfl, _, hone, rfl, _⟩, _⟩ := H.outs
 rcases hone with ⟨h, _⟩ | ⟨_, us', ⟨v2, r2, hus, hrep, hr2⟩, hval⟩
 ·cases h
 ·obtain ⟨hr2, _⟩ := hr2
  have h2 : [v2] = [Value.bool (Pt.plain (pV t))] := hrep
  injection h2 with h2 _
  rw [he, H.val, hval, hus, hr2, h2]
  rfl
theorem K3 (t : ByteArray) : Lib.containsS jd t = decide (pV t ∈ Pt.words) := by
 rw [Bool.eq_iff_iff, Lib.containsS_iff, decide_eq_true_eq]
 have hb : ∀ l ∈ Pt.words, Bl l := by
  unfold Pt.words Bl
  decide
 unfold jd
 constructor
 ·intro h
  obtain ⟨l, h1, rfl⟩ := List.mem_map.1 h
  rw [rb (hb l h1)]
  exact h1
 ·intro h
  exact List.mem_map.2 ⟨pV t, h, wi t⟩
theorem E2 {G : gl} (hG : lb G) (key : List Nat) (s : bh) : bU Go.Proofs.Tryz.prog G 36 ⟨s, B0 36 key s⟩ := by
 by_cases hs : s = dk
 ·subst hs
  rw [GN key]
  intro w SA N0 vs ps bs' ms p q hq hin
  obtain ⟨t, u⟩ := p
  cases u
  change ByteArray at t
  have hq2 : (if 4000000 < t.size then none else some ((Pt.jC (pV t), ()) : Bool × Unit)) = some q := hq
  obtain ⟨mA, mB, rfl, ⟨v, r, p1, p2, b1, b2, m1, m2, rfl, rfl, rfl, rfl, ⟨rfl, rfl, v', r', e1, hrep, rfl, rfl⟩, rfl, rfl, rfl, rfl⟩, hmB⟩ := hin.args
  cases e1
  have h1 : [v] = [Value.string t] := hrep
  cases h1
  split at hq2
  ·cases hq2
  ·rename_i hsz
   cases hq2
   have hw : ∀ k o, G k = some o → w.heap[k]? = some o := fun k o h => (hin.Lq k o h).1
   refine (Jd t _ w (hG w hw).1 (Jh hG t (by omega) w hw)).mono fun e w' ⟨he, hb⟩ => ?_
   rw [K3] at he
   refine ⟨_, N0, [.bool (Pt.jC (pV t))], [], [], he, ⟨hb.os, hb.tape, hb.output, hb.size, fun k hk _ => hb.block k hk, fun k hk => (hin.n0 k hk).elim, fun l h => h, ⟨[], [], rfl, ?_, rfl⟩, rfl, ⟨rfl, rfl⟩, fun k hk => (by cases hk), fun k hk => (by cases hk), fun k hk => (by cases hk), List.nodup_nil⟩⟩
   exact ⟨_, [], [], [], rfl, rfl, .inr ⟨by decide, [_], ⟨_, [], rfl, rfl, rfl, rfl⟩, rfl⟩, rfl, rfl⟩
 ·rw [FQ hs]
  exact dm
theorem Nl {G : gl} (hG : lb G) : Prog.OK Go.Proofs.Tryz.prog G (C B0) := Br hG B0 (fun _ _ => rfl) (E2 hG)
end Go.Px.Seat
