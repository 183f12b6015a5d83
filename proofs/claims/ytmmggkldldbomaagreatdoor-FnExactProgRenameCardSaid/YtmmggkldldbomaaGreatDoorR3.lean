/- slices.Clone as the evaluator asks it: of data, and of slices into arenas. -/
import Derived.Test.YtmmggkldldbomaaGreatDoorR2
set_option linter.unusedVariables false
namespace Go.Px
open Go
def Bn (P : Program) (f : FuncId) (e size : Nat) : Prop := ∀ (ad : Option Addr) (n cap : Nat) (w : World) (us : List Value), us.length = n * size → n ≤ 4000000 → (∀ u ∈ us, u.oneCell' = true) → (ad = none → n = 0) →
 (∀ x, ad = some x → ∀ j u, us[j]? = some u → w.cell? (x.add j) = some u) → (∀ x, ad = some x → 0 < n → x.block < w.heap.size) → eX P f e size ad n cap w us
theorem cO.grow {w w' : World} {SA : Nat → Prop} {N0 : Loc → Prop} (hb : ∀ k, k < w.heap.size → w'.heap[k]? = w.heap[k]?) (hsa : ∀ k, SA k → k < w.heap.size) (hn : ∀ k : Nat, ¬ N0 k) : ∀ {ms : List (Nat × Ty)} {q : mM ms} {b : List Nat}, cO w SA N0 ms q b → (∀ k ∈ b, k < w.heap.size) → cO w' SA N0 ms q b
 | [], _, _, h, _ => h
 | p :: ms, q, _, ⟨b1, b2, rfl, M, hbl, h⟩, hlt =>
  (⟨b1, b2, rfl, M.mono (fun _ h => h) (fun _ _ _ h => h) (fun k hk => hb k (hk.elim (hsa k) fun h => (hn k h).elim)) (fun g hg => hb g (hlt g (List.mem_append_left _ ((hbl.2 g).2 hg)))), hbl, cO.grow hb hsa hn h (fun k hk => hlt k (List.mem_append_right _ hk))⟩ : cO w' SA N0 (p :: ms) q (b1 ++ b2))
section
variable {P : Program} {G : gl} {f : FuncId} {et : Nat} {t : Ty}
theorem eX.end_ {w : World} {SA : Nat → Prop} {N0 : Loc → Prop} {ad : Option Addr} {n cap : Nat} {us : List Value} {ms : List (Nat × Ty)} {m2 mv : List Nat} {q : mM ms} {xs : List t.den} (H : eX P f et t.size ad n cap w us)
  (hxs : xs.length = n) (hch : ∀ w' : World, (∀ k, k < w.heap.size → w'.heap[k]? = w.heap[k]?) → b7 (bm w'.heap (S2 SA N0 true) t) xs us) (hM : cO w SA N0 ms q m2) (hmv : mv = m2) (hnd : m2.Nodup) (hsa : ∀ k, SA k → k < w.heap.size) (hn : ∀ k : Nat, ¬ N0 k) :
  Calls P f #[.slice ad n cap] w fun e w' => ∃ v SF us' b1 b2, e = .returned v ∧ sy w SA N0 [] mv [] ⟨[.cell (.val (.slice t) false)], [(0, [.row t et true])], ms⟩ (bN.mk ms (xs, ()) q) v w' SF us' b1 b2 := by
 subst hmv
 refine Calls.mono H fun e w' ⟨v, he, hown, hbel, hnew⟩ => ?_
 obtain ⟨A, N, C, hv⟩ := iq hown
 have hob : bo v = v.ownBlock := fE ⟨A, N, C, hv⟩
 have hlt2 : ∀ k ∈ mv, k < w.heap.size := fun k hk => lZ hM k hk
 have hmem : ∀ k ∈ (bo v).toList, w.heap.size ≤ k ∧ k < w'.heap.size := fun k hk => by
  have hk' : v.ownBlock = some k := by
   rw [← hob]
   cases h : bo v with
   | none => rw [h] at hk; cases hk
   | some x =>
    rw [h] at hk
    simp at hk
    rw [hk]
  exact ⟨hnew k hk', (hown.lt k hk').2⟩
 have hblk : ∀ k, k < w.heap.size → w'.heap[k]? = w.heap[k]? := fun k hk => hbel.block k hk
 refine ⟨v, N0, [v], (bo v).toList ++ mv, [], he, hbel.os, hbel.tape, hbel.output, hbel.size, fun k hk _ => hblk k hk, fun k hk => (hn k hk).elim, fun l h => h, ⟨(bo v).toList, mv, rfl, ?_, ?_⟩, rfl, ⟨rfl, rfl⟩, fun k hk => ?_, fun k _ => hn k, fun k hk => (by cases hk), ?_⟩
 ·have h1 : iK w' SA N0 [(0, [.row t et true])] (show cR (aK [(0, [eZ.row t et true])]) from (xs, ())) [v] (bo v).toList := by
   refine ⟨v, [], (bo v).toList, [], rfl, by simp, .inr ⟨(fun h => by cases h), [v], ⟨v, [], _, [], rfl, by simp, ?_, hch w' hblk, rfl, rfl⟩, rfl⟩, rfl, rfl⟩
   show w'.fc 0 et t.size v xs.length us
   rw [hxs]
   exact hown
  exact Eq.mp (congrArg (fun z => iK w' SA N0 [(0, [.row t et true])] z [v] (bo v).toList) (show (show cR (aK [(0, [eZ.row t et true])]) from (xs, ())) = (cR.split (aK [(0, [eZ.row t et true])]) [] (bN.out ms (bN.mk ms (show cR (aK [(0, [eZ.row t et true])] ++ []) from (xs, ())) q))).1 by rw [bN.FB]; rfl)) h1
 ·exact Eq.mp (congrArg (fun z => cO w' SA N0 ms z mv) (bN.JU ms (show cR (aK [(0, [eZ.row t et true])] ++ []) from (xs, ())) q).symm) (cO.grow hblk hsa hn hM hlt2)
 ·rcases List.mem_append.1 hk with hk | hk
  ·exact ⟨.inl (hmem k hk).1, (hmem k hk).2⟩
  ·exact ⟨.inr hk, Nat.lt_of_lt_of_le (hlt2 k hk) hbel.size⟩
 ·rw [List.append_nil]
  refine List.nodup_append.2 ⟨by cases bo v <;> simp, hnd, fun x hx y hy hxy => ?_⟩
  subst hxy
  have := (hmem x hx).1
  have := hlt2 x hy
  omega
theorem xp (hw : Bn P f et t.size) (hs : cE t = false) : bU P G f ⟨⟨[.cell (.val (.slice t) false)], [(0, [.row t et true])], []⟩, fun q => if List.length (α := t.den) q.1 ≤ 4000000 then some q else none⟩ := by
 intro w SA N0 vs ps bs mv p q hq hin
 obtain ⟨l, u⟩ := p
 cases u
 change List t.den at l
 change (if l.length ≤ 4000000 then some ((l, ()) : List t.den × Unit) else none) = some q at hq
 split at hq
 ·rename_i hl
  cases hq
  obtain ⟨mA, mB, rfl, ⟨v, r, p1, p2, b1, b2, m1, m2, rfl, rfl, rfl, rfl, ⟨rfl, rfl, v', r', e1, hrep, rfl, rfl⟩, rfl, rfl, rfl, rfl⟩, hmB⟩ := hin.args
  cases e1
  change mB = [] at hmB
  subst hmB
  obtain ⟨a, n, c, e2, hn, hnc, hz⟩ := hrep
  cases e2
  change l.length = n at hn
  have hz' : ∃ us : List Value, b7 (bm w.heap (S2 SA N0 false) t) l us ∧ (a = none → n = 0) ∧ (∀ x, a = some x → ∀ j u, us[j]? = some u → w.cell? (x.add j) = some u) ∧ ∀ x, a = some x → 0 < n → x.block < w.heap.size := by
   rcases hz with hz | ⟨g, off, arr, et', fr, rfl, hg, harr, hfit, hch⟩
   ·subst hz
    have hl0 : l = [] := List.eq_nil_of_length_eq_zero hn
    subst hl0
    exact ⟨[], rfl, fun _ => rfl, fun x _ j u h => by simp at h, fun x _ h => absurd h (Nat.lt_irrefl 0)⟩
   ·exact ⟨_, hch, fun h => (by cases h), fun x h j u hu => (by cases h; exact iJ harr j u hu), fun x h _ => (by cases h; exact (Array.getElem?_eq_some_iff.1 harr).1)⟩
  obtain ⟨us, hch, h1, h2, h3⟩ := hz'
  have hlen : us.length = n * t.size := by rw [← hn]; exact hch.len
  exact eX.end_ (q := ()) (ms := []) (m2 := []) (hw a n c w us hlen (by omega) hch.one h1 h2 h3) hn
   (fun w' hb => hch.mono fun _ _ hr => bm.lT (fun _ _ _ _ h => .inl (h.elim id fun h => h.2.elim)) hs hr) rfl rfl List.nodup_nil (fun k hk => (hin.sa k hk).1) hin.n0
 ·cases hq
noncomputable def Gm {et : Nat} {t : Ty} (ms : List (Nat × Ty)) (bs : mM ms → List (Option (List t.den))) : (bh.mk [.cell (.val (.aI et t) false)] [(0, [.row t et true])] ms).In → Option (bh.mk [.cell (.val (.aI et t) false)] [(0, [.row t et true])] ms).Out := fun q =>
 let x : Nat × Nat × Nat := (bN.out ms q).1
 if bH (bs (bN.ms ms q)) x = true ∧ (au (bs (bN.ms ms q)) x).length ≤ 4000000 then some (bN.mk ms (au (bs (bN.ms ms q)) x, ()) (bN.ms ms q)) else none
theorem Ac {ms : List (Nat × Ty)} (hw : Bn P f et t.size) (bs : mM ms → List (Option (List t.den))) (hbs : ∀ (w : World) (SA : Nat → Prop) (N0 : Loc → Prop) (q : mM ms) (b : List Nat), cO w SA N0 ms q b → dy w.heap SA N0 t et (bs q)) :
  bU P G f ⟨⟨[.cell (.val (.aI et t) false)], [(0, [.row t et true])], ms⟩, Gm ms bs⟩ := by
 intro w SA N0 vs ps bs' mv p q hq hin
 obtain ⟨mA, mB, rfl, hargs, hM⟩ := hin.args
 obtain ⟨x0, hx0⟩ : ∃ x : Nat × Nat × Nat, x = (bN.out ms p).1 := ⟨_, rfl⟩
 obtain ⟨pm, hpm⟩ : ∃ pm, pm = bN.ms ms p := ⟨_, rfl⟩
 change (if bH (bs (bN.ms ms p)) (show Nat × Nat × Nat from (bN.out ms p).1) = true ∧ (au (bs (bN.ms ms p)) (show Nat × Nat × Nat from (bN.out ms p).1)).length ≤ 4000000 then some (bN.mk ms (au (bs (bN.ms ms p)) (show Nat × Nat × Nat from (bN.out ms p).1), ()) (bN.ms ms p)) else none) = some q at hq
 change cO w SA N0 ms (bN.ms ms p) mB at hM
 obtain ⟨v, r, p1, p2, b1, b2, m1, m2, rfl, rfl, rfl, rfl, ⟨rfl, rfl, v', r', e1, hrep, rfl, rfl⟩, rfl, rfl, rfl, rfl⟩ := hargs
 cases e1
 change bm w.heap (S2 SA N0 false) (.aI et t) [v] (bN.out ms p).1 at hrep
 rw [← hx0] at hrep
 change (if bH (bs (bN.ms ms p)) ((bN.out ms p).1 : Nat × Nat × Nat) = true ∧ _ then _ else _) = _ at hq
 rw [← hpm] at hM
 have hq2 : (if bH (bs pm) x0 = true ∧ (au (bs pm) x0).length ≤ 4000000 then some (bN.mk ms (au (bs pm) x0, ()) pm) else none) = some q := by
  rw [hx0, hpm]; exact hq
 clear hq
 split at hq2
 ·rename_i hc
  obtain ⟨hok, hle⟩ := hc
  cases hq2
  have M := hbs _ _ _ _ _ hM
  obtain ⟨a, n, c, e2, hn, hnc, hrow⟩ := hrep
  cases e2
  simp only [bH, Bool.or_eq_true, Bool.and_eq_true, Nat.beq_eq, Nat.ble_eq] at hok
  have hvl : (au (bs pm) x0).length = n := by
   show (((ak (bs pm) x0.1).take (x0.2.1 + x0.2.2)).drop x0.2.1).length = n
   rw [List.length_drop, List.length_take]
   clear hrow
   omega
  have hz' : ∃ us : List Value, b7 (bm w.heap (S2 SA N0 true) t) (au (bs pm) x0) us ∧ (a = none → n = 0) ∧ (∀ x, a = some x → ∀ j u, us[j]? = some u → w.cell? (x.add j) = some u) ∧ ∀ x, a = some x → 0 < n → x.block < w.heap.size := by
   by_cases h0 : n = 0
   ·have hv0 : au (bs pm) x0 = [] := List.eq_nil_of_length_eq_zero (by omega)
    rw [hv0]
    exact ⟨[], rfl, fun _ => h0, fun x _ j u h => by simp at h, fun x _ h => by omega⟩
   ·rcases hrow with ⟨hz, _⟩ | ⟨g, C, rfl, hle2, hS⟩
    ·exact absurd hz h0
    ·obtain ⟨hlv, hlen⟩ := hok.resolve_left (by omega)
     obtain ⟨cur, hcur, h1, h2, h3, hch⟩ := M.hit (hS.elim id fun h => h.2.elim) hlv
     refine ⟨_, (hch.take (x0.2.1 + x0.2.2)).drop x0.2.1, fun h => (by cases h), fun x h j u hu => ?_, fun x h _ => ?_⟩
     ·cases h
      rw [List.take_take, Nat.min_eq_left (Nat.mul_le_mul_right _ hlen), List.drop_take, List.drop_drop] at hu
      exact iJ hcur j u hu
     ·cases h
      exact (Array.getElem?_eq_some_iff.1 hcur).1
  obtain ⟨us, hch, h1, h2, h3⟩ := hz'
  have hlen : us.length = n * t.size := by rw [← hvl]; exact hch.len
  have hnd : mB.Nodup := by
   have := hin.nodup
   simpa using this
  have hsa : ∀ k, SA k → k < w.heap.size := fun k hk => (hin.sa k hk).1
  refine (eX.end_ (q := pm) (ms := ms) (m2 := mB) (mv := [] ++ [] ++ mB) (hw a n c w us hlen (by omega) hch.one h1 h2 h3) hvl
   (fun w' hb => hch.mono fun _ _ hr => bm.mono (fun _ h => h) (fun k hk => hb k (hk.elim (fun h => (hin.n0 k h).elim) fun h => hsa k (by cases h.1))) hr) hM rfl hnd hsa hin.n0).mono ?_
  rintro e w' ⟨v2, SF, us', b1, b2, he, O⟩
  exact ⟨v2, SF, us', b1, b2, he, O.os, O.tape, O.output, O.size, O.sr, O.sf, O.mu, O.outs, O.val, O.qa, O.new, O.loose, O.back, O.nodup⟩
 ·cases hq2
end
end Go.Px
