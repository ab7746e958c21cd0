import Derived.Test.YtkglmoobpigohaaGreatDoorKw
import Derived.Test.YtkglmoobpigohaaGreatDoorKt
import Derived.Test.YtkglmoobpigohaaGreatDoorKu
import Derived.Test.YtkglmoobpigohaaGreatDoorKs
import Derived.Test.YtkglmoobpigohaaGreatDoorKv
set_option linter.unusedVariables false
set_option linter.unusedSimpArgs false
set_option linter.constructorNameAsVariable false
namespace Go.TV
open Go.AI Go.PI Go.Proofs
def OSR (x : Rt) (B : Nat) : Prop := ∃ (o : G.O) (s : G.Z), x = some [yR 2 o, yR 0 s] ∧ osz o ≤ B ∧ bG s
theorem OSR.mk {o : G.O} {s : G.Z} {B : Nat} (h : osz o ≤ B) (hs : bG s) : OSR (some [yR 2 o, yR 0 s]) B := ⟨o, s, rfl, h, hs⟩
theorem OSR.le {x : Rt} {A B : Nat} (h : OSR x A) (hl : A ≤ B) : OSR x B := by obtain ⟨o, s, h1, h2, h3⟩ := h; exact ⟨o, s, h1, by omega, h3⟩
theorem aDn {β : Type} {a : G.O} {K : G.O × Unit → Option β} : obL (D := U0.D) [.rc 2] (some [yR 2 a]) K = K (a, ()) := rfl
theorem aBP {β : Type} {a : G.O} {b : G.Z} {K : G.O × G.Z × Unit → Option β} : obL (D := U0.D) [.rc 2, .rc 0] (some [yR 2 a, yR 0 b]) K = K (a, b, ()) := rfl
theorem obL_ys {β : Type} {a : G.Y} {K : G.Y × Unit → Option β} : obL (D := U0.D) [.rc 1] (some [yR 1 a]) K = K (a, ()) := rfl
theorem uK {α : Type} {l : List α} {lo hi : Int} (h0 : 0 ≤ lo) (h1 : lo ≤ hi) (h2 : hi ≤ (l.length : Int)) : ∃ w, slc l lo hi = some w ∧ (w.length : Int) = hi - lo := by
 unfold slc
 have e1 : decide (0 ≤ lo) = true := by simpa using h0
 have e2 : decide (lo ≤ hi) = true := by simpa using h1
 have e3 : decide (hi ≤ (l.length : Int)) = true := by simpa using h2
 rw [e1, e2, e3]
 refine ⟨_, rfl, ?_⟩
 rw [List.length_drop, List.length_take]; omega
section
variable {c : TC0} (h : Lib c)
include h
theorem Ob_lo {L : Nat} {s : G.Z} (hs : bG s) {a5 a1 : Int} {b : G.O} (h0 : 0 ≤ a5) (h9 : a5 ≤ 9) : OSR (aHm c L a5 a1 s b) 20 := by
 have seven : ∀ K : Int × G.Z × Unit → Rt, (∀ r s', 0 ≤ r → r < 7 → bG s' → OSR (K (r, s', ())) 20) → OSR (obL (D := U0.D) [.int .i64, .rc 0] (c 16 [yI (7 : Int), yR 0 s]) K) 20 := fun K hK => by
  obtain ⟨r, s', e, g1, g2, g3⟩ := h.nx s 7 hs (by omega)
  rw [e, fG]; exact hK r s' g1 g2 g3
 have three : ∀ K : Int × G.Z × Unit → Rt, (∀ r s', 0 ≤ r → r < 3 → bG s' → OSR (K (r, s', ())) 20) → OSR (obL (D := U0.D) [.int .i64, .rc 0] (c 16 [yI (3 : Int), yR 0 s]) K) 20 := fun K hK => by
  obtain ⟨r, s', e, g1, g2, g3⟩ := h.nx s 3 hs (by omega)
  rw [e, fG]; exact hK r s' g1 g2 g3
 have obj : ∀ {x : Rt} {s' : G.Z}, ObR x → bG s' → OSR (obL (D := U0.D) [.rc 2] x fun (r : G.O × Unit) => some [yR 2 r.1, yR 0 s']) 20 := fun hx hs' => by
  obtain ⟨o, e, g⟩ := hx
  rw [e, aDn]; exact .mk g hs'
 rw [aHm, B43x2]
 obtain rfl | rfl | rfl | rfl | rfl | rfl | rfl | rfl | rfl | rfl : a5 = 0 ∨ a5 = 1 ∨ a5 = 2 ∨ a5 = 3 ∨ a5 = 4 ∨ a5 = 5 ∨ a5 = 6 ∨ a5 = 7 ∨ a5 = 8 ∨ a5 = 9 := by omega
 ·exact obj h.n hs
 ·exact obj h.t hs
 ·exact seven _ fun r s' g1 g2 g3 => obj (h.i r g1 g2) g3
 ·exact seven _ fun r s' g1 g2 g3 => obj (h.i r g1 g2) g3
 ·exact obj h.q1 hs
 ·exact obj h.q2 hs
 ·refine three _ fun r s' g1 g2 g3 => ?_
  obtain ⟨w, e1, l1⟩ := uK (l := ([97, 98, 99] : List UInt8)) (hi := 3) g1 (by omega) (by decide)
  obtain ⟨w2, e2, l2⟩ := uK (l := w) (lo := 0) (hi := 1) (by omega) (by omega) (by omega)
  show OSR (ob (slc ([97, 98, 99] : List UInt8) r 3) fun v5 => ob (slc v5 (0 : Int) (1 : Int)) fun v6 => obL (D := U0.D) [.rc 1] (c 13 [yT v6]) fun (r7 : G.Y × Unit) => obL (D := U0.D) [.rc 2] (c 71 [yR 1 r7.1]) fun (r8 : G.O × Unit) => some [yR 2 r8.1, yR 0 s']) 20
  rw [e1, cO, e2, cO, h.u, obL_ys]
  exact obj (h.sy _) g3
 ·refine three _ fun r s' g1 g2 g3 => ?_
  obtain ⟨w, e1, l1⟩ := uK (l := ([112, 113] : List UInt8)) (lo := 0) (hi := r) (by omega) g1 (by show r ≤ 2; omega)
  show OSR (ob (slc ([112, 113] : List UInt8) 0 r) fun v10 => obL (D := U0.D) [.rc 2] (c 72 [yT v10]) fun (r11 : G.O × Unit) => some [yR 2 r11.1, yR 0 s']) 20
  rw [e1, cO]
  exact obj (h.x _) g3
 ·exact obj h.i0 hs
 ·exact obj h.i1 hs
theorem Ob0 {L : Nat} {s : G.Z} (hs : bG s) : OSR (F43 c L 0 s) 20 := by
 rw [F43, B43x0]
 obtain ⟨r, s', e, g1, g2, g3⟩ := h.nx s 14 hs (by omega)
 rw [e, fG]
 show OSR (aDP c L (decide ((9 : Int) < r)) r 0 s' _) 20
 rw [aDP, B43x1]
 cases e2 : decide ((9 : Int) < r) with
 | true =>
  simp only [djE] at e2
  obtain ⟨m, rfl⟩ : ∃ m : Nat, r = ((m + 8 : Nat) : Int) := ⟨(r - 8).toNat, by omega⟩
  rw [aM, show ((m + 8 : Nat) : Int) - 8 = (m : Int) by omega, wrapn (by omega)]
  exact Ob_lo h g3 (by omega) (by omega)
 | false =>
  simp only [dfN] at e2
  exact Ob_lo h g3 g1 (by omega)
theorem Ol_loop {L : Nat} (h0 : ∀ s, bG s → OSR (c 43 [yI (0 : Int), yR 0 s]) 20) {b : G.O} {r : Nat} (hr : r ≤ 3) :
    ∀ (j k m : Nat) (a6 : List G.O) (s : G.Z), r = k + j → a6.length = k → pZ a6 ≤ 21 * k → j < m → bG s → OSR (aAS c L m (r : Int) 1 (k : Int) a6 s b) 200 := by
 intro j
 induction j with
 | zero =>
  intro k m a6 s h1 h2 h3 h4 hs
  obtain ⟨m, rfl⟩ : ∃ m', m = m' + 1 := ⟨m - 1, by omega⟩
  have e3 : decide ((k : Int) < (r : Int)) = false := by simp; omega
  rw [aAS, B43x5, e3, aE]
  match a6, h2 with
  | [], _ => rw [h.l0, aDn]; exact .mk (by simp [niO, osz, pZ]) hs
  | [a], h2 => rw [h.l1, aDn]; exact .mk (by simp [pZ] at h3; simp [niO, cnO, osz, pZ]; simp only [lcS, lnN] at h2; omega) hs
  | [a, d], h2 => rw [h.l2, aDn]; exact .mk (by simp [pZ] at h3; simp [niO, cnO, osz, pZ]; simp only [lcS, lnN] at h2; omega) hs
  | [a, d, e], h2 => rw [h.l3, aDn]; exact .mk (by simp [pZ] at h3; simp [niO, cnO, osz, pZ]; simp only [lcS, lnN] at h2; omega) hs
  | _ :: _ :: _ :: _ :: l, h2 => simp at h2; omega
 | succ j ih =>
  intro k m a6 s h1 h2 h3 h4 hs
  obtain ⟨m, rfl⟩ : ∃ m', m = m' + 1 := ⟨m - 1, by omega⟩
  have e3 : decide ((k : Int) < (r : Int)) = true := by simp; omega
  rw [aAS, B43x5, e3, aM]
  obtain ⟨o, s', e, g1, g2⟩ := h0 s hs
  show OSR (obL (D := U0.D) [.rc 2, .rc 0] (c 43 [yI (0 : Int), yR 0 s]) _) 200
  rw [e, aBP]
  have e4 : Nat.ble ((a6.length + ([o] : List G.O).length) * 112) 1073741824 = true := by
   rw [Nat.ble_eq]; simp only [lcS, lnN]; omega
  simp only [e4, nO]
  rw [bO (by omega)]
  have hz : ∀ l : List G.O, pZ (l ++ [o]) = pZ l + osz o + 1 := by
   intro l
   induction l with
   | nil => simp [pZ]
   | cons x l ih => simp only [cnA, pZ, ih]; omega
  exact ih (k + 1) m (a6 ++ [o]) s' (by omega) (by simp; omega) (by rw [hz]; omega) (by omega) g2
theorem Ob1 {L : Nat} (hL : 10 ≤ L) (h0 : ∀ s, bG s → OSR (c 43 [yI (0 : Int), yR 0 s]) 20) {s : G.Z} (hs : bG s) : OSR (F43 c L 1 s) 200 := by
 rw [F43, B43x0]
 obtain ⟨r, s', e, g1, g2, g3⟩ := h.nx s 14 hs (by omega)
 rw [e, fG]
 show OSR (aDP c L false r 1 s' _) 200
 rw [aDP, B43x1, aE]
 by_cases h9 : r ≤ 9
 ·exact (Ob_lo h g3 g1 h9).le (by omega)
 have lst : ∀ b, OSR (aDO c L true 1 s' b) 200 := fun b => by
  rw [aDO, B43x4, aM]
  obtain ⟨q, s2, e, k1, k2, k3⟩ := h.nx s' 4 g3 (by omega)
  rw [e, fG]
  obtain ⟨m, rfl⟩ : ∃ m : Nat, q = (m : Int) := ⟨q.toNat, by omega⟩
  exact Ol_loop h h0 (by omega) m 0 L [] s2 (by omega) rfl (Nat.zero_le _) (by omega) k3
 rw [aHm, B43x2]
 obtain rfl | rfl | rfl | rfl : r = 10 ∨ r = 11 ∨ r = 12 ∨ r = 13 := by omega
 ·exact lst _
 ·exact lst _
 ·exact lst _
 ·have pr : ∀ b, OSR (aDO c L false 1 s' b) 200 := fun b => by
   rw [aDO, B43x4, aE]
   obtain ⟨o, s2, e, k1, k2⟩ := h0 s' g3
   show OSR (obL (D := U0.D) [.rc 2, .rc 0] (c 43 [yI (0 : Int), yR 0 s']) _) 200
   rw [e, aBP]
   obtain ⟨o2, s3, e, k3, k4⟩ := h0 s2 k2
   show OSR (obL (D := U0.D) [.rc 2, .rc 0] (c 43 [yI (0 : Int), yR 0 s2]) _) 200
   rw [e, aBP, h.cn, aDn]
   exact .mk (by simp only [cnO, osz, pZ]; omega) k4
  exact pr zrO
end
end Go.TV
namespace Go.TV
open Go.AI Go.PI Go.Proofs
def TSR (x : Rt) (B : Nat) : Prop := ∃ (t : G.T) (s : G.Z), x = some [yR 3 t, yR 0 s] ∧ tsz t ≤ B ∧ bG s
theorem TSR.mk {o : G.T} {s : G.Z} {B : Nat} (h : tsz o ≤ B) (hs : bG s) : TSR (some [yR 3 o, yR 0 s]) B := ⟨o, s, rfl, h, hs⟩
theorem TSR.le {x : Rt} {A B : Nat} (h : TSR x A) (hl : A ≤ B) : TSR x B := by obtain ⟨o, s, h1, h2, h3⟩ := h; exact ⟨o, s, h1, by omega, h3⟩
theorem dF {β : Type} {a : G.T} {K : G.T × Unit → Option β} : obL (D := U0.D) [.rc 3] (some [yR 3 a]) K = K (a, ()) := rfl
theorem fU {β : Type} {a : G.T} {b : G.Z} {K : G.T × G.Z × Unit → Option β} : obL (D := U0.D) [.rc 3, .rc 0] (some [yR 3 a, yR 0 b]) K = K (a, b, ()) := rfl
theorem obL_ss {β : Type} {a : List (List UInt8)} {K : List (List UInt8) × Unit → Option β} : obL (D := U0.D) [.sl .str] (some [⟨.sl .str, a⟩]) K = K (a, ()) := rfl
theorem obL_y1 {β : Type} {a : G.Y} {K : G.Y × Unit → Option β} : obL (D := U0.D) [.rc 1] (some [yR 1 a]) K = K (a, ()) := rfl
theorem tV_sz (w : List UInt8) : tsz (tV w) = 6 := by simp [tV, tsz, aU, zrO, osz, pZ]
theorem kU (f : G.Y) (l : List G.T) : tsz (tA f l) = 6 + aU l := by simp [tA, tsz, zrO, osz, pZ]
theorem tC_sz (o : G.O) : tsz (tC o) = 4 + osz o := by simp [tC, tsz, aU]
theorem tsz'_app (l : List G.T) (t : G.T) : aU (l ++ [t]) = aU l + tsz t + 1 := by
 induction l with
 | nil => simp [aU]
 | cons x l ih => simp only [cnA, aU, ih]; omega
section
variable {c : TC0} (h : Lib c)
include h
theorem Va_ok {L : Nat} {s : G.Z} (hs : bG s) : TSR (F17 c L s) 6 := by
 rw [F17, B17x0]
 obtain ⟨r, s', e, g1, g2, g3⟩ := h.nx s 3 hs (by omega)
 rw [e, fG]
 obtain ⟨w, e1, l1⟩ := uK (l := ([120, 121, 122] : List UInt8)) (hi := 3) g1 (by omega) (by decide)
 obtain ⟨w2, e2, l2⟩ := uK (l := w) (lo := 0) (hi := 1) (by omega) (by omega) (by omega)
 show TSR (ob (slc ([120, 121, 122] : List UInt8) r 3) fun v1 => ob (slc v1 (0 : Int) (1 : Int)) fun v2 => obL (D := U0.D) [.rc 3] (c 7 [yT v2]) fun (r3 : G.T × Unit) => some [yR 3 r3.1, yR 0 s']) 6
 rw [e1, cO, e2, cO, h.v, dF]
 exact .mk (by rw [tV_sz]; omega) g3
theorem Ta_loop {L : Nat} {E : List G.E} {d : Int} {B : Nat} (hB : B < 1000000) (hr : ∀ s, bG s → TSR (c 14 [yS 15 E, yI (IntKind.i64.wrap (d - 1)), yR 0 s]) B) {f : G.Y} {b : G.T} {r : Nat} (h3 : r ≤ 3) :
    ∀ (j k m : Nat) (a : List G.T) (s : G.Z), r = k + j → a.length = k → aU a ≤ (B + 1) * k → j < m → bG s → TSR (aA1 c L m (r : Int) E d (k : Int) a s f b) (6 + 3 * (B + 1)) := by
 intro j
 induction j with
 | zero =>
  intro k m a s h1 h2 h4 h5 hs
  obtain ⟨m, rfl⟩ : ∃ m', m = m' + 1 := ⟨m - 1, by omega⟩
  have e3 : decide ((k : Int) < (r : Int)) = false := by simp; omega
  rw [aA1, B14x4, e3, aE, h.a, dF]
  refine .mk ?_ hs
  have : (B + 1) * k ≤ (B + 1) * 3 := Nat.mul_le_mul_left _ (by omega)
  rw [kU]; omega
 | succ j ih =>
  intro k m a s h1 h2 h4 h5 hs
  obtain ⟨m, rfl⟩ : ∃ m', m = m' + 1 := ⟨m - 1, by omega⟩
  have e3 : decide ((k : Int) < (r : Int)) = true := by simp; omega
  obtain ⟨t, s', e, g1, g2⟩ := hr s hs
  rw [aA1, B14x4, e3, aM, e, fU]
  have e4 : Nat.ble ((a.length + ([t] : List G.T).length) * 176) 1073741824 = true := by
   rw [Nat.ble_eq]; simp only [lcS, lnN]; omega
  simp only [e4, nO]
  rw [bO (by omega)]
  refine ih (k + 1) m (a ++ [t]) s' (by omega) (by simp; omega) ?_ (by omega) g2
  rw [tsz'_app, Nat.mul_add]; omega
theorem Te_ok {L : Nat} (hL : 10 ≤ L) {E : List G.E} {d : Int} {B : Nat} (hB : B < 1000000) (hB2 : 204 ≤ B) (hv : ∀ s, bG s → TSR (c 17 [yR 0 s]) 6) (ho : ∀ s, bG s → OSR (c 43 [yI (1 : Int), yR 0 s]) 200)
    (ha : ∀ f : G.Y, ArR (c 48 [yS 15 E, yR 1 f])) (hr : 1 ≤ d → ∀ s, bG s → TSR (c 14 [yS 15 E, yI (IntKind.i64.wrap (d - 1)), yR 0 s]) B) {s : G.Z} (hs : bG s) :
    TSR (F14 c L E d s) (bif decide (d < 1) then 204 else 6 + 3 * (B + 1)) := by
 have lo : ∀ (a7 : Int) (s' : G.Z) (b : G.T), a7 ≤ 3 → bG s' → TSR (aHp c L a7 E d s' b) 204 := fun a7 s' b g1 g2 => by
  rw [aHp, B14x2]
  cases e1 : decide (a7 < (3 : Int)) with
  | true =>
   obtain ⟨t, s2, e, q1, q2⟩ := hv s' g2
   rw [aM, e, fU]
   exact .mk (by show tsz t ≤ 204; omega) q2
  | false =>
   simp only [dfN] at e1
   have e2 : decide (a7 = (3 : Int)) = true := by simp; omega
   obtain ⟨o, s2, e, q1, q2⟩ := ho s' g2
   rw [aE, e2, aM, e, aBP, h.k, dF]
   exact .mk (by show tsz (tC o) ≤ 204; rw [tC_sz]; omega) q2
 obtain ⟨r, s', e, g1, g2, g3⟩ := h.nx s 12 hs (by omega)
 rw [F14, B14x0, e, fG]
 cases e1 : decide (d < (1 : Int)) with
 | true =>
  rw [aM, cdt]
  show TSR (aDQ c L (decide ((3 : Int) < r)) r E d s' _) _
  rw [aDQ, B14x1]
  cases e2 : decide ((3 : Int) < r) with
  | true =>
   rw [aM, show decide ((4 : Int) = 0) = false by decide]
   simp only [Bool.not_false, nO]
   exact lo _ _ _ (by have := Int.tmod_lt_of_pos r (b := 4) (by omega); omega) g3
  | false =>
   simp only [dfN] at e2
   exact lo _ _ _ (by omega) g3
 | false =>
  rw [aE, cdf]
  simp only [dfN] at e1
  show TSR (aDQ c L false r E d s' _) _
  rw [aDQ, B14x1, aE]
  by_cases h4 : r ≤ 3
  ·exact (lo _ _ _ h4 g3).le (by omega)
  have jn : ∀ (s2 : G.Z) (f : G.Y) (b : G.T), bG s2 → TSR (J14x3 c L E d s2 f b) (6 + 3 * (B + 1)) := fun s2 f b k1 => by
   obtain ⟨k, b2, e, k2⟩ := ha f
   rw [J14x3, B14x3, e, aBQ]
   exact Ta_loop h hB (hr (by omega)) k2 k 0 L [] s2 (by omega) rfl (Nat.zero_le _) (by omega) k1
  have e2 : decide (r < (3 : Int)) = false := by simp; omega
  have e3 : decide (r = (3 : Int)) = false := by simp; omega
  obtain ⟨lh, eh, hh⟩ := h.hd
  obtain ⟨lw, ew, hw⟩ := h.ow
  obtain ⟨q, s2, e4, k1, k2, k3⟩ := h.nx s' 4 g3 (by omega)
  rw [aHp, B14x2, e2, aE, e3, aE, eh, obL_ss, ew, obL_ss, e4, fG]
  cases e5 : decide (q < (3 : Int)) with
  | true =>
   obtain ⟨i, s3, e6, k4, k5, k6⟩ := h.nx s2 (lh.length : Int) k3 (by omega)
   obtain ⟨m, rfl⟩ : ∃ m : Nat, i = (m : Int) := ⟨i.toNat, by omega⟩
   have hm : lh[m]? = some (lh[m]'(by omega)) := geG _
   simp only [aM]
   rw [e6, fG]
   simp only [aJ, hm, cO]
   rw [h.s, obL_y1]
   exact jn _ _ _ k6
  | false =>
   obtain ⟨i, s3, e6, k4, k5, k6⟩ := h.nx s2 (lw.length : Int) k3 (by omega)
   obtain ⟨m, rfl⟩ : ∃ m : Nat, i = (m : Int) := ⟨i.toNat, by omega⟩
   have hm : lw[m]? = some (lw[m]'(by omega)) := geG _
   simp only [aE]
   rw [e6, fG]
   simp only [aJ, hm, cO]
   rw [h.u, obL_y1]
   exact jn _ _ _ k6
theorem Li_ok {L : Nat} {E : List G.E} {A B : Nat} (hv : ∀ s, bG s → TSR (c 17 [yR 0 s]) 6)
    (h2 : ∀ s, bG s → TSR (c 14 [yS 15 E, yI (2 : Int), yR 0 s]) A) (h1 : ∀ s, bG s → TSR (c 14 [yS 15 E, yI (1 : Int), yR 0 s]) B) {s : G.Z} (hs : bG s) :
    TSR (F49 c L E 2 s) (A + B + 30) := by
 obtain ⟨t, s2, e, g1, g2⟩ := h2 s hs
 obtain ⟨r, s3, e2, k1, k2, k3⟩ := h.nx s2 8 g2 (by omega)
 rw [F49, B49x0, e, fU, e2, fG]
 have key : ∀ (a : Bool) (b : G.T), TSR (J49x1 c L a r E 2 s3 t b) (A + B + 30) := fun a b => by
  rw [J49x1, B49x1]
  cases a with
  | true =>
   rw [aM, h.l, dF]
   exact .mk (by rw [kU]; simp only [aU]; omega) k3
  | false =>
   rw [aE]
   cases decide (r = (2 : Int)) with
   | true =>
    obtain ⟨t2, s4, e, q1, q2⟩ := h1 s3 k3
    rw [aM]
    show TSR (obL (D := U0.D) [.rc 3, .rc 0] (c 14 [yS 15 E, yI (1 : Int), yR 0 s3]) _) _
    rw [e, fU]
    simp only []
    rw [h.l, dF]
    simp only []
    rw [h.l, dF]
    exact .mk (by rw [kU]; simp only [aU]; rw [kU]; simp only [aU]; omega) q2
   | false =>
    rw [aE]
    cases decide (r = (3 : Int)) with
    | true =>
     obtain ⟨t2, s4, e, q1, q2⟩ := hv s3 k3
     rw [aM, e, fU]
     simp only []
     rw [h.l, dF]
     simp only []
     rw [h.l, dF]
     exact .mk (by rw [kU]; simp only [aU]; rw [kU]; simp only [aU]; omega) q2
    | false =>
     rw [aE]
     cases decide (r = (4 : Int)) with
     | true =>
      obtain ⟨t2, s4, e, q1, q2⟩ := h1 s3 k3
      rw [aM]
      show TSR (obL (D := U0.D) [.rc 3, .rc 0] (c 14 [yS 15 E, yI (1 : Int), yR 0 s3]) _) _
      rw [e, fU]
      simp only []
      rw [h.l, dF]
      exact .mk (by rw [kU]; simp only [aU]; omega) q2
     | false =>
      rw [aE]
      cases decide (r = (5 : Int)) with
      | true =>
       obtain ⟨t1, s4, e, q1, q2⟩ := hv s3 k3
       rw [aM, e, fU]
       obtain ⟨t2, s5, e, q3, q4⟩ := h1 s4 q2
       show TSR (obL (D := U0.D) [.rc 3, .rc 0] (c 14 [yS 15 E, yI (1 : Int), yR 0 s4]) _) _
       rw [e, fU]
       simp only []
       rw [h.l, dF]
       simp only []
       rw [h.l, dF]
       exact .mk (by rw [kU]; simp only [aU]; rw [kU]; simp only [aU]; omega) q4
      | false => exact .mk (by omega) k3
 cases decide (r = (0 : Int)) with
 | true => exact key _ _
 | false => exact key _ _
end
end Go.TV
namespace Go.TV
open Go.AI Go.PI Go.Proofs
def ClR (x : Rt) (B : Nat) : Prop := ∃ (l : List G.T) (s : G.Z), x = some [yS 3 l, yR 0 s] ∧ aU l ≤ B ∧ bG s
def AdR (x : Rt) (B : Nat) : Prop := ∃ l : List G.T, x = some [yS 3 l] ∧ aU l ≤ B
theorem obL_cs {β : Type} {a : List G.T} {b : G.Z} {K : List G.T × G.Z × Unit → Option β} : obL (D := U0.D) [.sl (.rc 3), .rc 0] (some [yS 3 a, yR 0 b]) K = K (a, b, ()) := rfl
theorem Ad_ok {a : List G.T} {t : G.T} {L n : Nat} (hw : aU a < 100000) (hL : aU a + 10 < L) (hn : aU a < n) : AdR (CTp L (n + 1) 18 [yS 3 a, yS 3 ([t] : List G.T)]) (aU a + tsz t + 1) := by
 have hlen := cG a
 obtain ⟨L, rfl⟩ : ∃ L', L = L' + 2 := ⟨L - 2, by omega⟩
 refine (congrArg (fun z => AdR z (aU a + tsz t + 1)) (c18 a [t] (L + 2) n)).mpr ?_
 show AdR (F18 (CTp (L + 2) n) (L + 2) a [t]) _
 rw [F18, B18x0]
 have e0 : IntKind.i64.wrap ((a.length : Int) + (([t] : List G.T).length : Int)) = ((a.length + 1 : Nat) : Int) := bO (by omega)
 have e1 : decide ((0 : Int) ≤ ((a.length + 1 : Nat) : Int)) = true := by simp only [djE]; omega
 have e2 : decide (((a.length + 1 : Nat) : Int) * 176 ≤ 1073741824) = true := by simp only [djE]; omega
 have e3 : decide (((a.length + 1 : Nat) : Int) ≤ 1073741824) = true := by simp only [djE]; omega
 have e4 : Nat.ble ((([] : List G.T).length + a.length) * 176) 1073741824 = true := by rw [Nat.ble_eq]; simp only [lnN]; omega
 rw [e0, e1, e2, e3, e4]
 show AdR (aAZ (CTp (L + 2) n) (L + 2) (L + 2) [t] 0 a) _
 rw [aAZ, B18x1, show decide ((0 : Int) < (([t] : List G.T).length : Int)) = true by rfl, aM, show idx ([t] : List G.T) 0 = some t from rfl, cO]
 have hc : CTp (L + 2) n 50 [yS 3 a, yR 3 t] = some [yB (decide (t ∈ a))] := Con_ok (by omega) (by omega) hn
 rw [hc, bN]
 have fin : ∀ l : List G.T, aU l ≤ aU a + tsz t + 1 → AdR (J18x2 (CTp (L + 2) n) (L + 2) (aAZ (CTp (L + 2) n) (L + 2) (L + 1)) 0 [t] l) (aU a + tsz t + 1) := fun l hl => by
  rw [J18x2, B18x2]
  exact ⟨l, rfl, hl⟩
 have e5 : Nat.ble ((a.length + ([t] : List G.T).length) * 176) 1073741824 = true := by rw [Nat.ble_eq]; simp only [lcS, lnN]; omega
 cases decide (t ∈ a) with
 | true => exact fin a (by omega)
 | false =>
  simp only [Bool.not_false, aM, cO, e5, nO]
  exact fin (a ++ [t]) (by rw [tsz'_app]; omega)
section
variable {c : TC0} (h : Lib c) {E : List G.E}
include h
set_option linter.unusedSectionVars false in
theorem Cl_loop {L : Nat} {B : Nat} (hl : ∀ s, bG s → TSR (c 49 [yS 15 E, yI (2 : Int), yR 0 s]) B)
    (ha : ∀ (a : List G.T) (t : G.T), aU a < 50000 → AdR (c 18 [yS 3 a, yS 3 ([t] : List G.T)]) (aU a + tsz t + 1)) (hB : B ≤ 10000) {r : Nat} (hr : r ≤ 2) :
    ∀ (j k m : Nat) (a : List G.T) (s : G.Z), r = k + j → aU a ≤ (B + 1) * k → j < m → bG s → ClR (aA0 c L m (r : Int) E 2 (k : Int) a s) (2 * (B + 1)) := by
 intro j
 induction j with
 | zero =>
  intro k m a s h1 h4 h5 hs
  obtain ⟨m, rfl⟩ : ∃ m', m = m' + 1 := ⟨m - 1, by omega⟩
  have e3 : decide ((k : Int) < (r : Int)) = false := by simp; omega
  rw [aA0, B15x1, e3, aE]
  have : (B + 1) * k ≤ (B + 1) * 2 := Nat.mul_le_mul_left _ (by omega)
  exact ⟨a, s, rfl, by omega, hs⟩
 | succ j ih =>
  intro k m a s h1 h4 h5 hs
  obtain ⟨m, rfl⟩ : ∃ m', m = m' + 1 := ⟨m - 1, by omega⟩
  have e3 : decide ((k : Int) < (r : Int)) = true := by simp; omega
  obtain ⟨t, s', e, g1, g2⟩ := hl s hs
  have : (B + 1) * k ≤ (B + 1) * 2 := Nat.mul_le_mul_left _ (by omega)
  obtain ⟨a2, e2, g3⟩ := ha a t (by omega)
  rw [aA0, B15x1, e3, aM, e, fU]
  simp only []
  rw [e2, sY, bO (by omega)]
  exact ih (k + 1) m a2 s' (by omega) (by rw [Nat.mul_add]; omega) (by omega) g2
theorem Cl_ok {L : Nat} {B : Nat} (hL : 10 ≤ L) (hl : ∀ s, bG s → TSR (c 49 [yS 15 E, yI (2 : Int), yR 0 s]) B)
    (ha : ∀ (a : List G.T) (t : G.T), aU a < 50000 → AdR (c 18 [yS 3 a, yS 3 ([t] : List G.T)]) (aU a + tsz t + 1)) (hB : B ≤ 10000) {s : G.Z} (hs : bG s) : ClR (F15 c L E 2 2 s) (2 * (B + 1)) := by
 obtain ⟨r, s', e, g1, g2, g3⟩ := h.nx s 2 hs (by omega)
 rw [F15, B15x0, e, fG]
 obtain ⟨m, rfl⟩ : ∃ m : Nat, r = (m : Int) := ⟨r.toNat, by omega⟩
 have e1 : IntKind.i64.wrap ((1 : Int) + (m : Int)) = ((m + 1 : Nat) : Int) := by rw [Int.add_comm]; exact bO (by omega)
 simp only [e1]
 exact Cl_loop h hl ha hB (by omega) (m + 1) 0 L [] s' (by omega) (Nat.zero_le _) (by omega) g3
theorem Lc_loop {L : Nat} (hv : ∀ s, bG s → TSR (c 17 [yR 0 s]) 6) {B : Nat}
    (h1 : ∀ s, bG s → TSR (c 14 [yS 15 E, yI (1 : Int), yR 0 s]) B)
    (ha : ∀ (a : List G.T) (t : G.T), aU a < 50000 → AdR (c 18 [yS 3 a, yS 3 ([t] : List G.T)]) (aU a + tsz t + 1)) {x y : G.T} {A : Nat} (hx : tsz x ≤ A) (hy : tsz y ≤ A) (hA : A ≤ 2500) (hB : B ≤ 2500) {r : Nat} (hr : r ≤ 3) :
    ∀ (j k m : Nat) (a : List G.T) (s : G.Z), r = k + j → aU a ≤ 7000 + 10500 * k → j < m → bG s → ClR (W3x1 c L m (r : Int) E (k : Int) a s x y) 40000 := by
 intro j
 induction j with
 | zero =>
  intro k m a s q1 q2 q3 hs
  obtain ⟨m, rfl⟩ : ∃ m', m = m' + 1 := ⟨m - 1, by omega⟩
  have e3 : decide ((k : Int) < (r : Int)) = false := by simp; omega
  rw [W3x1, B3x1, e3, aE]
  exact ⟨a, s, rfl, by omega, hs⟩
 | succ j ih =>
  intro k m a s q1 q2 q3 hs
  obtain ⟨m, rfl⟩ : ∃ m', m = m' + 1 := ⟨m - 1, by omega⟩
  have e3 : decide ((k : Int) < (r : Int)) = true := by simp; omega
  obtain ⟨t, s2, e, g1, g2⟩ := h1 s hs
  obtain ⟨q, s3, e5, g3, g4, g5⟩ := h.nx s2 5 g2 (by omega)
  have fin : ∀ (u : G.T) (s4 : G.Z), tsz u ≤ 10400 → bG s4 → ClR (J3x2 c L (W3x1 c L m) a (k : Int) (r : Int) E s4 u x y) 40000 := fun u s4 k1 k2 => by
   obtain ⟨a2, e2, g⟩ := ha a u (by omega)
   rw [J3x2, B3x2, e2, sY, bO (by omega)]
   exact ih (k + 1) m a2 s4 (by omega) (by omega) (by omega) k2
  rw [W3x1, B3x1, e3, aM, h.l, dF]
  simp only []
  rw [e, fU]
  simp only []
  rw [h.l, dF]
  simp only []
  rw [e5, fG]
  simp only []
  cases decide (q = (0 : Int)) with
  | true =>
   rw [aM, h.l, dF]
   simp only []
   rw [h.l, dF]
   simp only []
   rw [h.l, dF]
   simp only []
   rw [h.l, dF]
   exact fin _ _ (by simp only [kU, aU]; omega) g5
  | false =>
   rw [aE]
   cases decide (q = (1 : Int)) with
   | true =>
    rw [aM, h.l, dF]
    exact fin _ _ (by simp only [kU, aU]; omega) g5
   | false =>
    rw [aE]
    cases decide (q = (2 : Int)) with
    | true =>
     obtain ⟨v, s4, e6, k1, k2⟩ := hv s3 g5
     rw [aM, e6, fU]
     simp only []
     rw [h.l, dF]
     simp only []
     rw [h.l, dF]
     exact fin _ _ (by simp only [kU, aU]; omega) k2
    | false =>
     rw [aE]
     exact fin _ _ (by simp only [kU, aU]; omega) g5
theorem Lc_ok {L : Nat} (hL : 10 ≤ L) (hv : ∀ s, bG s → TSR (c 17 [yR 0 s]) 6) {A B : Nat} (h2 : ∀ s, bG s → TSR (c 14 [yS 15 E, yI (2 : Int), yR 0 s]) A)
    (h1 : ∀ s, bG s → TSR (c 14 [yS 15 E, yI (1 : Int), yR 0 s]) B)
    (hc : ∀ s, bG s → ClR (c 15 [yS 15 E, yI (2 : Int), yI (2 : Int), yR 0 s]) 7000)
    (ha : ∀ (a : List G.T) (t : G.T), aU a < 50000 → AdR (c 18 [yS 3 a, yS 3 ([t] : List G.T)]) (aU a + tsz t + 1)) (hA : A ≤ 2500) (hB : B ≤ 2400) {s : G.Z} (hs : bG s) : ClR (F3 c L E s) 40000 := by
 obtain ⟨x, s2, e, g1, g2⟩ := h2 s hs
 obtain ⟨y, s3, e2, g3, g4⟩ := h1 s2 g2
 obtain ⟨a, s4, e3, g5, g6⟩ := hc s3 g4
 obtain ⟨r, s5, e4, g7, g8, g9⟩ := h.nx s4 4 g6 (by omega)
 obtain ⟨m, rfl⟩ : ∃ m : Nat, r = (m : Int) := ⟨r.toNat, by omega⟩
 rw [F3, B3x0, e, fU]
 simp only []
 rw [e2, fU]
 simp only []
 rw [h.l, dF]
 simp only []
 rw [e3, obL_cs]
 simp only []
 rw [e4, fG]
 exact Lc_loop h hv h1 ha (A := 2500) (by omega) (by simp only [kU, aU]; omega) (by omega) (by omega) (by omega) m 0 L a s5 (by omega) (by omega) (by omega) g9
end
end Go.TV
namespace Go.TV
open Go.AI Go.PI Go.Proofs
theorem aBo : rowsL = [⟨[105, 102], 3⟩, ⟨[101, 113, 117, 97, 108], 2⟩, ⟨[99, 111, 110, 115], 2⟩, ⟨[99, 97, 114], 1⟩, ⟨[99, 100, 114], 1⟩, ⟨[99, 111, 110, 115, 112], 1⟩, ⟨[115, 121, 109, 98, 111, 108, 112], 1⟩, ⟨[115, 116, 114, 105, 110, 103, 112], 1⟩, ⟨[114, 97, 116, 105, 111, 110, 97, 108, 112], 1⟩, ⟨[105, 110, 116, 101, 103, 101, 114, 112], 1⟩, ⟨[98, 105, 110, 97, 114, 121, 45, 43], 2⟩, ⟨[98, 105, 110, 97, 114, 121, 45, 42], 2⟩, ⟨[117, 110, 97, 114, 121, 45, 45], 1⟩, ⟨[117, 110, 97, 114, 121, 45, 47], 1⟩, ⟨[60], 2⟩, ⟨[110, 117, 109, 101, 114, 97, 116, 111, 114], 1⟩, ⟨[100, 101, 110, 111, 109, 105, 110, 97, 116, 111, 114], 1⟩, ⟨[102, 108, 111, 111, 114], 1⟩, ⟨[115, 121, 109, 98, 111, 108, 45, 110, 97, 109, 101], 1⟩, ⟨[115, 121, 109, 98, 111, 108, 45, 112, 97, 99, 107, 97, 103, 101, 45, 110, 97, 109, 101], 1⟩, ⟨[105, 110, 116, 101, 114, 110], 2⟩, ⟨[115, 116, 114, 105, 110, 103, 45, 97, 112, 112, 101, 110, 100], 2⟩, ⟨[115, 116, 114, 105, 110, 103, 45, 108, 101, 110, 103, 116, 104], 1⟩, ⟨[115, 116, 114, 105, 110, 103, 45, 98, 121, 116, 101], 2⟩, ⟨[98, 121, 116, 101, 45, 115, 116, 114, 105, 110, 103], 1⟩] := rfl
theorem pI {x : List UInt8} : ∀ {l : List G.R}, (∀ r ∈ l, ¬ r.name = x) → jR x l = none
 | [], _ => rfl
 | r :: l, h => by rw [jR, if_neg (h r (mhE ..)), pI fun y hy => h y (mtE _ hy)]
theorem aHW (s : G.Y) (L n : Nat) : CTp L (n + 1) 97 [yR 1 s] = some (oI (arity s)) := by
 rw [c97, F97, B97x0]
 by_cases e : s.package = kB
 ·have e' : decide (s.package = ([108, 105, 115, 112] : List UInt8)) = true := decide_eq_true e
  have ea : arity s = jR s.name rowsL := by simp [arity, e]
  rw [e', ea]
  simp only [bnT, aE]
  generalize s.name = x
  simp only [J97x1, J97x2, B97x1, B97x2]
  by_cases hm : ∃ r ∈ rowsL, r.name = x
  ·obtain ⟨r, hr, rfl⟩ := hm
   rw [aBo] at hr
   simp only [List.mem_cons, List.not_mem_nil, or_false] at hr
   rcases hr with rfl | rfl | rfl | rfl | rfl | rfl | rfl | rfl | rfl | rfl | rfl | rfl | rfl | rfl | rfl | rfl | rfl | rfl | rfl | rfl | rfl | rfl | rfl | rfl | rfl
   all_goals rfl
  ·have hn : ∀ r ∈ rowsL, ¬ r.name = x := fun r hr h => hm ⟨r, hr, h⟩
   rw [pI hn]
   rw [aBo] at hn
   simp only [List.forall_mem_cons, G.R.name] at hn
   obtain ⟨h0, h1, h2, h3, h4, h5, h6, h7, h8, h9, h10, h11, h12, h13, h14, h15, h16, h17, h18, h19, h20, h21, h22, h23, h24, -⟩ := hn
   simp only [Ne.symm h0, Ne.symm h1, Ne.symm h2, Ne.symm h3, Ne.symm h4, Ne.symm h5, Ne.symm h6, Ne.symm h7, Ne.symm h8, Ne.symm h9, Ne.symm h10, Ne.symm h11, Ne.symm h12, Ne.symm h13, Ne.symm h14, Ne.symm h15, Ne.symm h16, Ne.symm h17, Ne.symm h18, Ne.symm h19, Ne.symm h20, Ne.symm h21, Ne.symm h22, Ne.symm h23, Ne.symm h24, decide_false, aE, oI]
 ·have e' : decide (s.package = ([108, 105, 115, 112] : List UInt8)) = false := decide_eq_false e
  have ea : arity s = none := by simp [arity, e]
  rw [e', ea]; rfl
end Go.TV
namespace Go.TV
open Go.AI Go.PI Go.Proofs
theorem obL_ibF {β : Type} {k : Int} {b : Bool} {K : Int × Bool × Unit → Option β} : obL (D := U0.D) [.int .i64, .bool] (some [yI k, yB b]) K = K (k, b, ()) := rfl
theorem cnd_ex {x : Bool} {A B : Option TVs} (h1 : ∃ b, A = some (bb b)) (h2 : ∃ b, B = some (bb b)) : ∃ b, cnd x A B = some (bb b) := by
 cases x
 ·exact h2
 ·exact h1
theorem Pl_ex (s : G.Y) : ∃ b, ∀ L n, 1000 ≤ L → CTp L (n + 3) 21 [yR 1 s] = some (bb b) ∧ CTp L (n + 3) 77 [yR 1 s] = some (bb b) := by
 have h1 : ∀ L n, 1000 ≤ L → ∃ k b, oI (arity s) = [yI k, yB b] ∧ CTp L (n + 2) 55 [yR 1 s] = some [yI k, yB b] ∧ CTp L (n + 2) 97 [yR 1 s] = some [yI k, yB b] := by
  intro L n hL
  have a1 := aC1 s L n hL
  have a2 := aHW s L (n + 1)
  cases e : arity s with
  | none => rw [e] at a1 a2; exact ⟨0, false, rfl, a1, a2⟩
  | some k => rw [e] at a1 a2; exact ⟨k, true, rfl, a1, a2⟩
 obtain ⟨k, f, h2⟩ : ∃ k f, ∀ L n, 1000 ≤ L → CTp L (n + 2) 55 [yR 1 s] = some [yI k, yB f] ∧ CTp L (n + 2) 97 [yR 1 s] = some [yI k, yB f] := by
  cases e : arity s with
  | none => exact ⟨0, false, fun L n hL => ⟨(aC1 s L n hL).trans (by rw [e]; rfl), (aHW s L (n + 1)).trans (by rw [e]; rfl)⟩⟩
  | some k => exact ⟨k, true, fun L n hL => ⟨(aC1 s L n hL).trans (by rw [e]; rfl), (aHW s L (n + 1)).trans (by rw [e]; rfl)⟩⟩
 have h3 : ∃ b, aHB (fun _ _ => some [yI k, yB f]) (fun x => B77x1 (fun _ _ => none) x) s = some (bb b) := by
  rw [aHB, obL_ibF]
  simp only [B77x1]
  repeat' first | apply cnd_ex | exact ⟨_, rfl⟩
 obtain ⟨b, h3⟩ := h3
 refine ⟨b, fun L n hL => ⟨?_, ?_⟩⟩
 ·rw [c21, F21, B21x0, (h2 L n hL).1]; exact h3
 ·rw [c77, F77, aHB, (h2 L n hL).2]; exact h3
noncomputable def plS (s : G.Y) : Bool := Classical.choose (Pl_ex s)
theorem plR_ok (s : G.Y) (L n : Nat) (hL : 1000 ≤ L) : CTp L (n + 3) 21 [yR 1 s] = some [yB (plS s)] := (Classical.choose_spec (Pl_ex s) L n hL).1
theorem plP_ok (s : G.Y) (L n : Nat) (hL : 1000 ≤ L) : CTp L (n + 3) 77 [yR 1 s] = some [yB (plS s)] := (Classical.choose_spec (Pl_ex s) L n hL).2
end Go.TV
namespace Go.TV
open Go.AI Go.PI Go.Proofs
noncomputable def jP (cl : List G.T) (t : G.T) : Bool := decide (t.kind = 3) && (!gnd t && (!plS t.name && twl t cl 0))
theorem aGA {cl : List G.T} {t : G.T} {L n : Nat} (hw : aU cl < 1000000000) (ht : wfT t) (hL : aU cl + tsz t + 1000 ≤ L) (hn : aU cl + tsz t + 10 ≤ n) : CTp L n 51 (lt2 cl t) = some (bb (jP cl t)) := by
 obtain ⟨n, rfl⟩ : ∃ n', n = n' + 4 := ⟨n - 4, by omega⟩
 have h1 : CTp L (n + 3) 76 [yR 3 t] = some [yB (gnd t)] := Gnd_ok t ht L (n + 3) (by omega) (by omega)
 have h2 := plP_ok t.name L n (by omega)
 have h3 : CTp L (n + 3) 78 [yS 3 cl, yR 3 t] = some [yB (twl t cl 0)] := Tw_ok hw (by omega) (by omega)
 show CTp L (n + 3 + 1) 51 [yS 3 _, yR 3 _] = _
 rw [c51, F51, B51x0, h1, bN, h2, bN, h3, bN, jP]
 simp only [J51x1, B51x1]
 cases decide (t.kind = 3) <;> cases gnd t <;> cases plS t.name <;> simp [cnd, bb]
mutual
noncomputable def pU (cl : List G.T) : G.T → Bool
 | ⟨_, _, _, l⟩ => oR cl l
noncomputable def oR (cl : List G.T) : List G.T → Bool
 | [] => false
 | x :: l => (jP cl x || (decide (x.kind = 3) && pU cl x)) || oR cl l
end
theorem In_loop {c : TC0} {L : Nat} {cl a : List G.T} (hb : a.length < 1000000000) : ∀ (l : List G.T) (k m : Nat), a.drop k = l → l.length < m →
    (∀ x, x ∈ l → c 51 (lt2 cl x) = some (bb (jP cl x)) ∧ c 52 (lt2 cl x) = some (bb (pU cl x))) → aAQ c L m (a.length : Int) a cl (k : Int) = some (bb (oR cl l)) := by
 intro l
 induction l with
 | nil =>
  intro k m h1 h3 _
  obtain ⟨m, rfl⟩ : ∃ m', m = m' + 1 := ⟨m - 1, by simp at h3; omega⟩
  have e1 := aK h1
  have e3 : decide ((k : Int) < (a.length : Int)) = false := by simp; omega
  rw [aAQ, B52x1, e3, aE, oR]; rfl
 | cons x l ih =>
  intro k m h1 h3 hc
  obtain ⟨m, rfl⟩ : ∃ m', m = m' + 1 := ⟨m - 1, by simp at h3; omega⟩
  obtain ⟨a1, a2, a3⟩ := aL h1
  have e3 : decide ((k : Int) < (a.length : Int)) = true := by simp; omega
  have hx : c 51 [yS 3 cl, yR 3 x] = some [yB (jP cl x)] := (hc x (mhE ..)).1
  have hy : c 52 [yS 3 cl, yR 3 x] = some [yB (pU cl x)] := (hc x (mhE ..)).2
  have hi := ih (k + 1) m a3 (by simp at h3; omega) fun z hz => hc z (mtE _ hz)
  rw [aAQ, B52x1, e3, aM, aJ, a1, cO, hx, bN, hy, bN, oR]
  simp only [J52x2, B52x2]
  rw [bO (by omega), hi]
  cases jP cl x <;> cases decide (x.kind = 3) <;> cases pU cl x <;> simp [cnd, bb]
theorem in_ok {cl : List G.T} (hw : aU cl < 1000000000) : ∀ (t : G.T), wfT t → ∀ (L n : Nat), aU cl + tsz t + 1000 ≤ L → aU cl + tsz t + 10 ≤ n → CTp L n 52 (lt2 cl t) = some (bb (pU cl t)) := by
 intro t
 induction t using bP with
 | h k nm v l ih =>
  intro ht L n hL hn
  simp only [wfT, tsz] at ht hL hn
  have hlen := cG l
  obtain ⟨n, rfl⟩ : ∃ n', n = n' + 1 := ⟨n - 1, by omega⟩
  show CTp L (n + 1) 52 [yS 3 _, yR 3 _] = _
  rw [c52, pU]
  exact In_loop (cl := cl) (a := l) (by omega) l 0 L rfl (by omega) fun x hx => ⟨aGA hw (by have := aG hx; simp only [wfT]; omega) (by have := aG hx; omega) (by have := aG hx; omega), ih x hx (by have := aG hx; simp only [wfT]; omega) L n (by have := aG hx; omega) (by have := aG hx; omega)⟩
end Go.TV
namespace Go.TV
open Go.AI Go.PI Go.Proofs
theorem obL_ll {β : Type} {a b : List G.T} {K : List G.T × List G.T × Unit → Option β} : obL (D := U0.D) [.sl (.rc 3), .sl (.rc 3)] (some [yS 3 a, yS 3 b]) K = K (a, b, ()) := rfl
mutual
noncomputable def vis (cl out : List G.T) : G.T → List G.T
 | ⟨k, nm, v, l⟩ => if k = 3 then (if jP cl ⟨k, nm, v, l⟩ && !pU cl ⟨k, nm, v, l⟩ then qE out ⟨k, nm, v, l⟩ else pT cl out l) else out
noncomputable def pT (cl out : List G.T) : List G.T → List G.T
 | [] => out
 | x :: l => pT cl (vis cl out x) l
end
theorem Vi_loop2 {c : TC0} {L : Nat} {t : G.T} {cl a : List G.T} (hb : a.length < 6000000) : ∀ (l : List G.T) (k m : Nat), a.drop k = l → l.length < m →
    (∀ x, x ∈ l → c 53 (tt2 x t) = some (bb (decide (x = t)))) → aAY c L m (a.length : Int) a (k : Int) cl a t = some (ll2 cl (if t ∈ l then a else a ++ [t])) := by
 intro l
 induction l with
 | nil =>
  intro k m h1 h3 _
  obtain ⟨m, rfl⟩ : ∃ m', m = m' + 1 := ⟨m - 1, by simp at h3; omega⟩
  have e1 := aK h1
  have e3 : decide ((k : Int) < (a.length : Int)) = false := by simp; omega
  rw [aAY, B19x2, e3, aE, aCr hb]
  simp [nO, ll2, chk]
 | cons x l ih =>
  intro k m h1 h3 hc
  obtain ⟨m, rfl⟩ : ∃ m', m = m' + 1 := ⟨m - 1, by simp at h3; omega⟩
  obtain ⟨a1, a2, a3⟩ := aL h1
  have e3 : decide ((k : Int) < (a.length : Int)) = true := by simp; omega
  have hxy : c 53 [yR 3 x, yR 3 t] = some [yB (decide (x = t))] := hc x (mhE ..)
  rw [aAY, B19x2, e3, aM, aJ, a1, cO, hxy, bN, bO (by omega)]
  by_cases e : x = t
  ·subst e; simp [cnd, ll2]
  ·have e' : ¬ t = x := fun h => e h.symm
   simp only [e, decide_false, aE]
   rw [ih (k + 1) m a3 (by simp at h3; omega) fun z hz => hc z (mtE _ hz)]
   simp [e']
theorem vis'_len {cl l : List G.T} (ih : ∀ x ∈ l, ∀ acc, (vis cl acc x).length ≤ acc.length + tsz x) : ∀ acc, (pT cl acc l).length ≤ acc.length + aU l := by
 induction l with
 | nil => intro acc; simp [pT, aU]
 | cons x l ih2 =>
  intro acc
  simp only [pT, aU]
  have h1 := ih2 (fun y hy => ih y (mtE _ hy)) (vis cl acc x)
  have h2 := ih x (mhE ..) acc
  omega
theorem aEf {cl : List G.T} : ∀ (t : G.T) (acc : List G.T), (vis cl acc t).length ≤ acc.length + tsz t := by
 intro t
 induction t using bP with
 | h k n v l ih =>
  intro acc
  simp only [vis, tsz]
  have h1 := tU acc ⟨k, n, v, l⟩
  split
  ·split
   ·omega
   ·have := vis'_len ih acc; omega
  ·omega
theorem vis'_all {cl l : List G.T} {B : Nat} (ih : ∀ x ∈ l, ∀ acc, (∀ y ∈ acc, tsz y ≤ B) → tsz x ≤ B → ∀ y ∈ vis cl acc x, tsz y ≤ B) : (∀ x ∈ l, tsz x ≤ B) → ∀ acc, (∀ y ∈ acc, tsz y ≤ B) → ∀ y ∈ pT cl acc l, tsz y ≤ B := by
 induction l with
 | nil => intro _ acc h; exact h
 | cons x l ih2 =>
  intro hl acc h
  simp only [pT]
  exact ih2 (fun y hy => ih y (mtE _ hy)) (fun y hy => hl y (mtE _ hy)) _ (ih x (mhE ..) acc h (hl x (mhE ..)))
theorem aEg {cl : List G.T} {B : Nat} : ∀ (t : G.T) (acc : List G.T), (∀ y ∈ acc, tsz y ≤ B) → tsz t ≤ B → ∀ y ∈ vis cl acc t, tsz y ≤ B := by
 intro t
 induction t using bP with
 | h k n v l ih =>
  intro acc h ht
  simp only [vis]
  have h1 := tW h ht
  simp only [tsz] at ht
  split
  ·split
   ·exact h1
   ·exact vis'_all (fun x hx acc h1 h2 => ih x hx acc h1 h2) (fun x hx => by have := aG hx; omega) _ h
  ·exact h
theorem Vi_loop3 {c : TC0} {L B M : Nat} {cl a : List G.T} (hb : a.length < 1000000000) : ∀ (l acc : List G.T) (k m : Nat), a.drop k = l → l.length < m → (∀ y ∈ acc, tsz y ≤ B) → (∀ y ∈ l, tsz y ≤ B) → acc.length + aU l ≤ M →
    (∀ x, x ∈ l → ∀ acc : List G.T, (∀ y ∈ acc, tsz y ≤ B) → acc.length + tsz x ≤ M → c 19 (yR 3 x :: ll2 cl acc) = some (ll2 cl (vis cl acc x))) → aAX c L m (a.length : Int) a (k : Int) cl acc = some (ll2 cl (pT cl acc l)) := by
 intro l
 induction l with
 | nil =>
  intro acc k m h1 h3 _ _ _ _
  obtain ⟨m, rfl⟩ : ∃ m', m = m' + 1 := ⟨m - 1, by simp at h3; omega⟩
  have e1 := aK h1
  have e3 : decide ((k : Int) < (a.length : Int)) = false := by simp; omega
  rw [aAX, B19x3, e3, aE]; rfl
 | cons x l ih =>
  intro acc k m h1 h3 h4 h5 h6 hc
  obtain ⟨m, rfl⟩ : ∃ m', m = m' + 1 := ⟨m - 1, by simp at h3; omega⟩
  obtain ⟨a1, a2, a3⟩ := aL h1
  simp only [aU] at h6
  have e3 : decide ((k : Int) < (a.length : Int)) = true := by simp; omega
  have hx := h5 x (mhE ..)
  have hxy : c 19 [yR 3 x, yS 3 cl, yS 3 acc] = some [yS 3 cl, yS 3 (vis cl acc x)] := hc x (mhE ..) acc h4 (by omega)
  rw [aAX, B19x3, e3, aM, aJ, a1, cO, hxy, obL_ll, bO (by omega)]
  exact ih (vis cl acc x) (k + 1) m a3 (by simp at h3; omega) (aEg x acc h4 hx) (fun y hy => h5 y (mtE _ hy)) (by have := aEf (cl := cl) x acc; omega) fun z hz => hc z (mtE _ hz)
end Go.TV
namespace Go.TV
open Go.AI Go.PI Go.Proofs
theorem vis_ok {cl : List G.T} {B M : Nat} (hw : aU cl < 1000000000) (hB : B < 1000000000) (hM : M < 6000000) : ∀ (t : G.T) (acc : List G.T) (L n : Nat), (∀ y ∈ acc, tsz y ≤ B) → tsz t ≤ B → acc.length + tsz t ≤ M → aU cl + B + M + 1000 ≤ L → aU cl + B + tsz t + 12 ≤ n →
    CTp L n 19 (yR 3 t :: ll2 cl acc) = some (ll2 cl (vis cl acc t)) := by
 intro t
 induction t using bP with
 | h k nm v l ih =>
  intro acc L n h1 h2 h3 hL hn
  have h2' := h2
  simp only [tsz] at h2 h3 hn
  have hlen := cG l
  obtain ⟨n, rfl⟩ : ∃ n', n = n' + 1 := ⟨n - 1, by omega⟩
  have hwt : wfT (⟨k, nm, v, l⟩ : G.T) := by simp only [wfT]; omega
  have k1 : CTp L n 51 [yS 3 cl, yR 3 ⟨k, nm, v, l⟩] = some [yB (jP cl ⟨k, nm, v, l⟩)] := aGA hw hwt (by omega) (by simp only [tsz]; omega)
  have k2 : CTp L n 52 [yS 3 cl, yR 3 ⟨k, nm, v, l⟩] = some [yB (pU cl ⟨k, nm, v, l⟩)] := in_ok hw _ hwt L n (by omega) (by simp only [tsz]; omega)
  show CTp L (n + 1) 19 [yR 3 _, yS 3 _, yS 3 _] = _
  rw [c19, F19, B19x0, k1, bN, k2, bN, vis]
  by_cases e : k = 3
  ·subst e
   have key : ∀ b : Bool, J19x1 (CTp L n) L b cl acc ⟨3, nm, v, l⟩ = some (ll2 cl (if b = true then qE acc ⟨3, nm, v, l⟩ else pT cl acc l)) := by
    intro b
    rw [J19x1, B19x1]
    cases b with
    | true => exact Vi_loop2 (by omega) acc 0 L rfl (by omega) fun x hx => TEq_ok x (by have := h1 x hx; simp only [wfT]; omega) _ L n (by have := h1 x hx; omega) (by have := h1 x hx; omega)
    | false => exact Vi_loop3 (B := B) (M := M) (a := l) (by omega) l acc 0 L rfl (by omega) h1 (fun y hy => by have := aG hy; omega) (by omega)
                    fun x hx acc2 q1 q2 => ih x hx acc2 L n q1 (by have := aG hx; omega) q2 hL (by have := aG hx; omega)
   simp only [G.T.kind, decide_true, bnT, aE, if_true]
   cases jP cl ⟨3, nm, v, l⟩ with
   | true => rw [aM]; simpa using key (!pU cl ⟨3, nm, v, l⟩)
   | false => rw [aE]; simpa using key false
  ·simp [e, G.T.kind, cnd, ll2]
theorem Tm_loop {c : TC0} {L B M : Nat} {cl : List G.T} (hb : cl.length < 1000000000) : ∀ (l acc : List G.T) (k m : Nat), cl.drop k = l → l.length < m → (∀ y ∈ acc, tsz y ≤ B) → (∀ y ∈ l, tsz y ≤ B) → acc.length + aU l ≤ M →
    (∀ x, x ∈ l → ∀ acc : List G.T, (∀ y ∈ acc, tsz y ≤ B) → acc.length + tsz x ≤ M → c 19 (yR 3 x :: ll2 cl acc) = some (ll2 cl (vis cl acc x))) → W4x1 c L m (cl.length : Int) cl (k : Int) acc cl = some (tl1 (pT cl acc l)) := by
 intro l
 induction l with
 | nil =>
  intro acc k m h1 h3 _ _ _ _
  obtain ⟨m, rfl⟩ : ∃ m', m = m' + 1 := ⟨m - 1, by simp at h3; omega⟩
  have e1 := aK h1
  have e3 : decide ((k : Int) < (cl.length : Int)) = false := by simp; omega
  rw [W4x1, B4x1, e3, aE]; rfl
 | cons x l ih =>
  intro acc k m h1 h3 h4 h5 h6 hc
  obtain ⟨m, rfl⟩ : ∃ m', m = m' + 1 := ⟨m - 1, by simp at h3; omega⟩
  obtain ⟨a1, a2, a3⟩ := aL h1
  simp only [aU] at h6
  have e3 : decide ((k : Int) < (cl.length : Int)) = true := by simp; omega
  have hx := h5 x (mhE ..)
  have hxy : c 19 [yR 3 x, yS 3 cl, yS 3 acc] = some [yS 3 cl, yS 3 (vis cl acc x)] := hc x (mhE ..) acc h4 (by omega)
  rw [W4x1, B4x1, e3, aM, aJ, a1, cO, hxy, obL_ll, bO (by omega)]
  exact ih (vis cl acc x) (k + 1) m a3 (by simp at h3; omega) (aEg x acc h4 hx) (fun y hy => h5 y (mtE _ hy)) (by have := aEf (cl := cl) x acc; omega) fun z hz => hc z (mtE _ hz)
theorem aHy {cl : List G.T} {L n : Nat} (hw : aU cl < 6000000) (hL : 3 * aU cl + 1000 ≤ L) (hn : 3 * aU cl + 20 ≤ n) : CTp L n 4 (tl1 cl) = some (tl1 (pT cl [] cl)) := by
 have hlen := cG cl
 obtain ⟨n, rfl⟩ : ∃ n', n = n' + 1 := ⟨n - 1, by omega⟩
 show CTp L (n + 1) 4 [yS 3 _] = _
 rw [c4, F4, B4x0]
 exact Tm_loop (B := aU cl) (M := aU cl) (by omega) cl [] 0 L rfl (by omega) (fun y hy => by cases hy) (fun y hy => aG hy) (by simp) fun x hx acc q1 q2 =>
  vis_ok (by omega) (by omega) hw x acc L n q1 (aG hx) q2 (by omega) (by have := aG hx; omega)
end Go.TV
namespace Go.TV
open Go.AI Go.PI Go.Proofs
noncomputable def kpL (i : Nat) (x : G.T) : Nat → List G.T → Bool
 | _, [] => true
 | k, y :: r => (decide (k = i) || !occ y x) && kpL i x (k + 1) r
theorem Rt_in {c : TC0} {L : Nat} {n3 : List G.T → Int → List G.T → Rt} {a out : List G.T} {i : Nat} {x : G.T} (hx : a[i]? = some x) (hb : a.length < 6000000) (ho : out.length < 6000000) : ∀ (l : List G.T) (b : Bool) (k m : Nat), a.drop k = l → l.length < m →
    (∀ y, y ∈ l → c 24 (tt2 y x) = some (bb (occ y x))) →
    W5x5 c L n3 m (k : Int) b (i : Int) a out = n3 a (IntKind.i64.wrap ((i : Int) + 1)) (if b && kpL i x k l then out ++ [x] else out) := by
 intro l
 induction l with
 | nil =>
  intro b k m h1 h3 _
  obtain ⟨m, rfl⟩ : ∃ m', m = m' + 1 := ⟨m - 1, by simp at h3; omega⟩
  have e1 := aK h1
  have e3 : decide ((k : Int) < (a.length : Int)) = false := by simp; omega
  rw [W5x5, B5x5, e3, aE, aJ, hx, cO]
  simp only [J5x7, B5x7, lcS, lnN, Nat.zero_add, aCr ho, nO, kpL]
  cases b <;> simp [cnd]
 | cons y l ih =>
  intro b k m h1 h3 hc
  obtain ⟨m, rfl⟩ : ∃ m', m = m' + 1 := ⟨m - 1, by simp at h3; omega⟩
  obtain ⟨a1, a2, a3⟩ := aL h1
  have e3 : decide ((k : Int) < (a.length : Int)) = true := by simp; omega
  have hy : c 24 [yR 3 y, yR 3 x] = some [yB (occ y x)] := hc y (mhE ..)
  have hi := fun b => ih b (k + 1) m a3 (by simp at h3; omega) fun z hz => hc z (mtE _ hz)
  rw [W5x5, B5x5, e3, aM, aJ, aJ, a1, hx, cO, cO, hy, bN, kpL]
  simp only [J5x6, B5x6]
  rw [bO (show k < _ by omega), hi, hi, hi]
  cases b with
  | false => simp [cnd]
  | true =>
   by_cases e : k = i
   ·subst e; simp [cnd]
   ·have e' : ¬ (k : Int) = (i : Int) := by omega
    cases occ y x <;> simp [cnd, e, e']
noncomputable def kpA (a : List G.T) : Nat → List G.T → List G.T → List G.T
 | _, out, [] => out
 | i, out, x :: l => kpA a (i + 1) (if kpL i x 0 a then out ++ [x] else out) l
theorem Rt_out {c : TC0} {L : Nat} {a : List G.T} (hb : a.length < 5000000) (hL : a.length < L) (hc : ∀ x, x ∈ a → ∀ y, y ∈ a → c 24 (tt2 y x) = some (bb (occ y x))) : ∀ (l out : List G.T) (k m : Nat), a.drop k = l → l.length < m → out.length ≤ k →
    W5x3 c L m a (k : Int) out = some (tl1 (kpA a k out l)) := by
 intro l
 induction l with
 | nil =>
  intro out k m h1 h3 _
  obtain ⟨m, rfl⟩ : ∃ m', m = m' + 1 := ⟨m - 1, by simp at h3; omega⟩
  have e1 := aK h1
  have e3 : decide ((k : Int) < (a.length : Int)) = false := by simp; omega
  rw [W5x3, B5x3, e3, aE]; rfl
 | cons x l ih =>
  intro out k m h1 h3 ho
  obtain ⟨m, rfl⟩ : ∃ m', m = m' + 1 := ⟨m - 1, by simp at h3; omega⟩
  obtain ⟨a1, a2, a3⟩ := aL h1
  have e3 : decide ((k : Int) < (a.length : Int)) = true := by simp; omega
  rw [W5x3, B5x3, e3, aM]
  have := Rt_in (c := c) (L := L) (n3 := W5x3 c L m) (a := a) (out := out) a1 (by omega) (by omega) a true 0 L rfl hL (fun y hy => hc x (List.mem_of_getElem? a1) y hy)
  refine this.trans ?_
  rw [bO (by omega), kpA]
  have hl : (if (true && kpL k x 0 a) = true then out ++ [x] else out).length ≤ k + 1 := by
   split
   ·simp only [lnA, lcS, lnN]; omega
   ·omega
  refine (ih _ (k + 1) m a3 (by simp at h3; omega) hl).trans ?_
  simp
end Go.TV
namespace Go.TV
open Go.AI Go.PI Go.Proofs
noncomputable def flt (cl : List G.T) : List G.T → List G.T → List G.T
 | acc, [] => acc
 | acc, x :: l => flt cl (if jP cl x then acc ++ [x] else acc) l
theorem Rt_flt {c : TC0} {L : Nat} {cl a : List G.T} (hb : a.length < 5000000)
    (hc : ∀ x, x ∈ a → c 21 [yR 1 x.name] = some [yB (plS x.name)] ∧ c 22 [yR 3 x] = some [yB (gnd x)] ∧ c 23 [yS 3 cl, yR 3 x] = some [yB (twl x cl 0)]) : ∀ (l acc : List G.T) (k m : Nat), a.drop k = l → l.length < m → acc.length ≤ k →
    W5x1 c L m a cl (k : Int) acc = W5x3 c L L (flt cl acc l) 0 [] := by
 intro l
 induction l with
 | nil =>
  intro acc k m h1 h3 _
  obtain ⟨m, rfl⟩ : ∃ m', m = m' + 1 := ⟨m - 1, by simp at h3; omega⟩
  have e1 := aK h1
  have e3 : decide ((k : Int) < (a.length : Int)) = false := by simp; omega
  rw [W5x1, B5x1, e3, aE]; rfl
 | cons x l ih =>
  intro acc k m h1 h3 ho
  obtain ⟨m, rfl⟩ : ∃ m', m = m' + 1 := ⟨m - 1, by simp at h3; omega⟩
  obtain ⟨a1, a2, a3⟩ := aL h1
  have e3 : decide ((k : Int) < (a.length : Int)) = true := by simp; omega
  obtain ⟨q1, q2, q3⟩ := hc x (List.mem_of_getElem? a1)
  have hble : Nat.ble ((acc.length + 1) * 176) 1073741824 = true := aCr (by omega)
  have hl : (if jP cl x then acc ++ [x] else acc).length ≤ k + 1 := by
   split
   ·simp only [lnA, lcS, lnN]; omega
   ·omega
  have hi := ih _ (k + 1) m a3 (by simp at h3; omega) hl
  have key : ∀ b : Bool, b = jP cl x → J5x2 c L (W5x1 c L m) b (k : Int) a cl acc x = W5x3 c L L (flt cl acc (x :: l)) 0 [] := by
   intro b hb2
   rw [J5x2, B5x2]
   simp only [J5x4, B5x4, lcS, lnN, Nat.zero_add, hble, nO]
   rw [bO (by omega), flt, ← hi, ← hb2]
   cases b <;> simp [cnd]
  rw [W5x1, B5x1, e3, aM, aJ, a1, cO, q1, bN, q2, bN, q3, bN]
  have hcd : jP cl x = (decide (x.kind = 3) && (!gnd x && (!plS x.name && twl x cl 0))) := rfl
  revert key
  rw [hcd]
  cases decide (x.kind = 3) <;> cases gnd x <;> cases plS x.name <;> cases twl x cl 0 <;> intro key <;> exact key _ rfl
theorem aFB {cl : List G.T} : ∀ (l acc : List G.T), (flt cl acc l).length ≤ acc.length + l.length ∧ ∀ y ∈ flt cl acc l, y ∈ acc ∨ y ∈ l
 | [], acc => ⟨by simp [flt], fun y hy => Or.inl hy⟩
 | x :: l, acc => by
  have h := aFB (cl := cl) l (if jP cl x then acc ++ [x] else acc)
  rw [flt]
  refine ⟨?_, fun y hy => ?_⟩
  ·refine Nat.le_trans h.1 ?_
   split
   ·simp only [lnA, lcS, lnN]; omega
   ·simp only [lcS]; omega
  ·rcases h.2 y hy with h2 | h2
   ·split at h2
    ·rcases List.mem_append.1 h2 with h3 | h3
     ·exact Or.inl h3
     ·simp at h3; subst h3; exact Or.inr (mhE ..)
    ·exact Or.inl h2
   ·exact Or.inr (mtE _ h2)
theorem aHi {cl : List G.T} {L n : Nat} (hw : aU cl < 1000000) (hL : 4 * aU cl + 1000 ≤ L) (hn : 4 * aU cl + 20 ≤ n) : CTp L n 5 (tl1 cl) = some (tl1 (kpA (flt cl [] (fQ [] cl)) 0 [] (flt cl [] (fQ [] cl)))) := by
 have hlen := cG cl
 obtain ⟨n, rfl⟩ : ∃ n', n = n' + 4 := ⟨n - 4, by omega⟩
 have hs : CTp L (n + 3) 20 [yS 3 cl] = some [yS 3 (fQ [] cl)] := Sub_ok (by omega) (by omega) (by omega)
 have hl : (fQ [] cl).length ≤ aU cl := by simpa using sub'_len (l := cl) (fun x _ acc => yU x acc) []
 have ha : ∀ y ∈ fQ [] cl, tsz y ≤ aU cl := sub'_all (fun x _ acc h1 h2 => yV x acc h1 h2) (fun x hx => aG hx) [] (fun y hy => by cases hy)
 have hf := aFB (cl := cl) (fQ [] cl) []
 have hfa : ∀ y ∈ flt cl [] (fQ [] cl), tsz y ≤ aU cl := fun y hy => by
  rcases hf.2 y hy with h | h
  ·cases h
  ·exact ha y h
 have hfl : (flt cl [] (fQ [] cl)).length ≤ aU cl := by have := hf.1; simp at this; omega
 show CTp L (n + 3 + 1) 5 [yS 3 _] = _
 rw [c5, F5, B5x0, hs, sY]
 refine (Rt_flt (a := fQ [] cl) (cl := cl) (by omega) (fun x hx => ?_) (fQ [] cl) [] 0 L rfl (by omega) (by simp)).trans ?_
 ·have := ha x hx
  exact ⟨plR_ok x.name L n (by omega), GndR_ok x (by omega) L (n + 3) (by omega) (by omega), Of_ok (by simp only [wfT]; omega) (by omega) (by omega) (by omega)⟩
 ·exact Rt_out (by omega) (by omega) (fun x hx y hy => aCU y (by have := hfa y hy; simp only [wfT]; omega) x (by have := hfa x hx; simp only [wfT]; omega) L (n + 3) (by have := hfa y hy; have := hfa x hx; omega) (by have := hfa y hy; have := hfa x hx; omega)) _ [] 0 L rfl (by omega) (by simp)
end Go.TV
namespace Go.TV
open Go.AI Go.PI Go.Proofs
noncomputable def pp (cl : List G.T) (t : G.T) : Bool := jP cl t && !pU cl t
theorem pM {cl acc : List G.T} {t : G.T} : (qE acc t).filter (pp cl) = if pp cl t then qE (acc.filter (pp cl)) t else acc.filter (pp cl) := by
 unfold qE
 by_cases h : t ∈ acc
 ·by_cases e : pp cl t = true <;> simp [h, e]
 ·by_cases e : pp cl t = true <;> simp [h, e, List.filter_append]
theorem wW {cl : List G.T} {t : G.T} (h : jP cl t = true) : t.kind = 3 := by
 simp only [jP, bjE, djE] at h; exact h.1
theorem sub'_no {cl l : List G.T} (ih : ∀ x ∈ l, ∀ acc, jP cl x = false → (x.kind = 3 → pU cl x = false) → (sub acc x).filter (pp cl) = acc.filter (pp cl)) (h : oR cl l = false) : ∀ acc, (fQ acc l).filter (pp cl) = acc.filter (pp cl) := by
 induction l with
 | nil => intro acc; rfl
 | cons x l ih2 =>
  intro acc
  simp only [oR, Bool.or_eq_false_iff, Bool.and_eq_false_iff, dfN] at h
  rw [fQ, ih2 (fun y hy => ih y (mtE _ hy)) h.2, ih x (mhE ..) acc h.1.1 fun hk => by
   rcases h.1.2 with h3 | h3
   ·exact absurd hk h3
   ·exact h3]
theorem sub_no {cl : List G.T} : ∀ (t : G.T) (acc : List G.T), jP cl t = false → (t.kind = 3 → pU cl t = false) → (sub acc t).filter (pp cl) = acc.filter (pp cl) := by
 intro t
 induction t using bP with
 | h k n v l ih =>
  intro acc hc hi
  have hp : pp cl ⟨k, n, v, l⟩ = false := by simp [pp, hc]
  rw [sub]
  split
  ·rename_i e
   have h2 := hi e
   rw [pU] at h2
   rw [sub'_no ih h2, pM]; simp [hp]
  ·rw [pM]; simp [hp]
theorem vis'_eq {cl l : List G.T} (ih : ∀ x ∈ l, ∀ acc, vis cl (acc.filter (pp cl)) x = (sub acc x).filter (pp cl)) : ∀ acc, pT cl (acc.filter (pp cl)) l = (fQ acc l).filter (pp cl) := by
 induction l with
 | nil => intro acc; rfl
 | cons x l ih2 =>
  intro acc
  rw [pT, fQ, ih x (mhE ..), ih2 fun y hy => ih y (mtE _ hy)]
theorem vis_eq {cl : List G.T} : ∀ (t : G.T) (acc : List G.T), vis cl (acc.filter (pp cl)) t = (sub acc t).filter (pp cl) := by
 intro t
 induction t using bP with
 | h k n v l ih =>
  intro acc
  rw [vis, sub]
  by_cases e : k = 3
  ·simp only [e, if_true]
   subst e
   cases hp : pp cl ⟨3, n, v, l⟩ with
   | true =>
    have hp2 : (jP cl ⟨3, n, v, l⟩ && !pU cl ⟨3, n, v, l⟩) = true := hp
    have hi : oR cl l = false := by simp [pU] at hp2; exact hp2.2
    rw [hp2, if_pos rfl, sub'_no (fun x _ => sub_no x) hi, pM, hp]; rfl
   | false =>
    have hp2 : (jP cl ⟨3, n, v, l⟩ && !pU cl ⟨3, n, v, l⟩) = false := hp
    have ha : (qE acc ⟨3, n, v, l⟩).filter (pp cl) = acc.filter (pp cl) := by rw [pM, hp]; rfl
    rw [hp2, ← ha, ← vis'_eq ih]; rfl
  ·have hc : jP cl ⟨k, n, v, l⟩ = false := by
    cases h : jP cl ⟨k, n, v, l⟩ with
    | false => rfl
    | true => exact absurd (wW h) e
   have hp : pp cl ⟨k, n, v, l⟩ = false := by simp [pp, hc]
   simp only [e, if_false]
   rw [pM, hp]; rfl
theorem vis_law (cl : List G.T) : pT cl [] cl = (fQ [] cl).filter (pp cl) := vis'_eq (fun x _ => vis_eq x) []
end Go.TV
namespace Go.TV
open Go.AI Go.PI Go.Proofs
theorem flt_eq {cl : List G.T} : ∀ (l acc : List G.T), flt cl acc l = acc ++ l.filter (jP cl)
 | [], acc => by simp [flt]
 | x :: l, acc => by
  rw [flt, flt_eq l]
  by_cases e : jP cl x = true <;> simp [e]
theorem aCz {acc : List G.T} {t y : G.T} : y ∈ qE acc t ↔ y ∈ acc ∨ y = t := by
 unfold qE
 split
 ·rename_i h
  constructor
  ·exact Or.inl
  ·rintro (h2 | rfl)
   ·exact h2
   ·exact h
 ·simp
theorem aGM {acc : List G.T} {t : G.T} (h : acc.Nodup) : (qE acc t).Nodup := by
 unfold qE
 split
 ·exact h
 ·rename_i h2
  rw [List.nodup_append]
  refine ⟨h, by simp, ?_⟩
  intro a ha b hb e
  simp at hb; subst hb; subst e; exact h2 ha
theorem sub'_nd {l : List G.T} (ih : ∀ x ∈ l, ∀ acc, acc.Nodup → (sub acc x).Nodup) : ∀ acc, acc.Nodup → (fQ acc l).Nodup := by
 induction l with
 | nil => intro acc h; exact h
 | cons x l ih2 => intro acc h; rw [fQ]; exact ih2 (fun y hy => ih y (mtE _ hy)) _ (ih x (mhE ..) acc h)
theorem sub_nd : ∀ (t : G.T) (acc : List G.T), acc.Nodup → (sub acc t).Nodup := by
 intro t
 induction t using bP with
 | h k n v l ih =>
  intro acc h
  rw [sub]
  split
  ·exact sub'_nd ih _ (aGM h)
  ·exact aGM h
theorem sub'_mem {l : List G.T} (ih : ∀ x ∈ l, ∀ acc y, (y ∈ sub acc x ↔ y ∈ acc ∨ occ y x = true)) : ∀ acc y, (y ∈ fQ acc l ↔ y ∈ acc ∨ uF y l = true) := by
 induction l with
 | nil => intro acc y; simp [fQ, uF]
 | cons x l ih2 =>
  intro acc y
  rw [fQ, ih2 (fun y hy => ih y (mtE _ hy)), ih x (mhE ..), uF, Bool.or_eq_true, or_assoc]
theorem sub_mem : ∀ (t : G.T) (acc : List G.T) (y : G.T), y ∈ sub acc t ↔ y ∈ acc ∨ occ y t = true := by
 intro t
 induction t using bP with
 | h k n v l ih =>
  intro acc y
  rw [sub, occ]
  by_cases e : k = 3
  ·simp only [e, if_true]
   rw [sub'_mem ih, aCz]; simp [or_assoc]
  ·simp only [e, if_false]
   rw [aCz]; simp
theorem occ'_ex {y : G.T} : ∀ {l : List G.T}, uF y l = true ↔ ∃ x ∈ l, occ y x = true
 | [] => by simp [uF]
 | x :: l => by rw [uF, Bool.or_eq_true, occ'_ex]; simp
theorem aFb {a b : G.T} : ∀ (c : G.T), occ a b = true → occ b c = true → occ a c = true := by
 intro c
 induction c using bP with
 | h k n v l ih =>
  intro h1 h2
  rw [occ] at h2 ⊢
  simp only [Bool.or_eq_true, bjE, djE] at h2 ⊢
  rcases h2 with h2 | ⟨h2, h3⟩
  ·subst h2
   rw [occ] at h1
   simpa using h1
  ·obtain ⟨x, hx, h4⟩ := occ'_ex.1 h3
   exact Or.inr ⟨h2, occ'_ex.2 ⟨x, hx, ih x hx h1 h4⟩⟩
theorem occ_sz {y : G.T} : ∀ (t : G.T), occ y t = true → tsz y ≤ tsz t := by
 intro t
 induction t using bP with
 | h k n v l ih =>
  intro h
  rw [occ] at h
  simp only [Bool.or_eq_true, bjE, djE] at h
  rcases h with h | ⟨_, h⟩
  ·subst h; exact nlR _
  ·obtain ⟨x, hx, h4⟩ := occ'_ex.1 h
   have := ih x hx h4
   have := aG hx
   simp only [tsz]; omega
theorem aFt {cl : List G.T} : ∀ (t : G.T), pU cl t = true ↔ ∃ x ∈ t.args, ∃ y, jP cl y = true ∧ occ y x = true := by
 intro t
 induction t using bP with
 | h k n v l ih =>
  rw [pU]
  show oR cl l = true ↔ ∃ x ∈ l, _
  clear k n v
  induction l with
  | nil => simp [oR]
  | cons x l ih2 =>
   rw [oR, Bool.or_eq_true, ih2 fun y hy => ih y (mtE _ hy)]
   have hx := ih x (mhE ..)
   have : (jP cl x || decide (x.kind = 3) && pU cl x) = true ↔ ∃ y, jP cl y = true ∧ occ y x = true := by
    rw [Bool.or_eq_true, bjE, hx, djE]
    constructor
    ·rintro (h | ⟨hk, z, hz, y, h1, h2⟩)
     ·refine ⟨x, h, ?_⟩
      cases x; rw [occ]; simp
     ·exact ⟨y, h1, sX hk hz h2⟩
    ·rintro ⟨y, h1, h2⟩
     cases x with | mk k n v al =>
     rw [occ] at h2
     simp only [Bool.or_eq_true, bjE, djE] at h2
     rcases h2 with h2 | ⟨h2, h3⟩
     ·subst h2; exact Or.inl h1
     ·obtain ⟨z, hz, h4⟩ := occ'_ex.1 h3
      exact Or.inr ⟨h2, z, hz, y, h1, h4⟩
   rw [this]; simp
end Go.TV
namespace Go.TV
open Go.AI Go.PI Go.Proofs
theorem zJ {i : Nat} {x : G.T} : ∀ {l : List G.T} {k : Nat}, kpL i x k l = true ↔ ∀ j y, l[j]? = some y → k + j ≠ i → occ y x = false
 | [], k => by simp [kpL]
 | z :: l, k => by
  rw [kpL, bjE, zJ, Bool.or_eq_true, djE]
  constructor
  ·rintro ⟨h1, h2⟩ j y hj hne
   cases j with
   | zero =>
    simp at hj; subst hj
    rcases h1 with h1 | h1
    ·omega
    ·simpa using h1
   | succ j => exact h2 j y (by simpa using hj) (by omega)
  ·intro h
   refine ⟨?_, fun j y hj hne => h (j + 1) y (by simpa using hj) (by omega)⟩
   by_cases e : k = i
   ·exact Or.inl e
   ·have := h 0 z rfl (by omega)
    exact Or.inr (by simp [this])
theorem kpA_eq {a : List G.T} {q : G.T → Bool} : ∀ (l out : List G.T) (i : Nat), (∀ j x, l[j]? = some x → kpL (i + j) x 0 a = q x) → kpA a i out l = out ++ l.filter q
 | [], out, i, _ => by simp [kpA]
 | x :: l, out, i, h => by
  have h0 := h 0 x rfl
  rw [Nat.add_zero] at h0
  rw [kpA, kpA_eq (q := q) l _ (i + 1) (fun j y hj => by have := h (j + 1) y (by simpa using hj); rw [← this]; congr 1; omega), h0]
  by_cases e : q x = true <;> simp [e]
theorem kp_law (cl : List G.T) : kpA (flt cl [] (fQ [] cl)) 0 [] (flt cl [] (fQ [] cl)) = (fQ [] cl).filter (pp cl) := by
 have hg : flt cl [] (fQ [] cl) = (fQ [] cl).filter (jP cl) := by rw [flt_eq]; simp
 rw [hg]
 have hnd : ((fQ [] cl).filter (jP cl)).Nodup := List.Pairwise.filter _ (sub'_nd (fun x _ => sub_nd x) [] (by simp))
 have hmem : ∀ y, y ∈ fQ [] cl ↔ uF y cl = true := fun y => by rw [sub'_mem (fun x _ => sub_mem x)]; simp
 rw [kpA_eq (q := fun x => !pU cl x)]
 ·rw [nlA, List.filter_filter]
  congr 1
  funext x
  simp [pp, Bool.and_comm]
 ·intro i x hi
  rw [Nat.zero_add]
  have hxm := List.mem_of_getElem? hi
  have hx := List.mem_filter.1 hxm
  have hk := wW hx.2
  cases e : pU cl x with
  | false =>
   show _ = true
   rw [zJ]
   intro j y hj hne
   cases ho : occ y x with
   | false => rfl
   | true =>
    exfalso
    have hym := List.mem_of_getElem? hj
    have hy := List.mem_filter.1 hym
    have hne2 : y ≠ x := by
     rintro rfl
     have h1 := List.getElem?_eq_some_iff.1 hi
     have h2 := List.getElem?_eq_some_iff.1 hj
     obtain ⟨p1, q1⟩ := h1
     obtain ⟨p2, q2⟩ := h2
     have hpw := List.pairwise_iff_getElem.1 hnd
     rcases Nat.lt_or_ge i j with h | h
     ·exact hpw i j p1 p2 h (q1.trans q2.symm)
     ·exact hpw j i p2 p1 (by omega) (q2.trans q1.symm)
    have : pU cl x = true := by
     rw [aFt]
     cases x with | mk k n v al =>
     rw [occ] at ho
     simp only [Bool.or_eq_true, bjE, djE] at ho
     rcases ho with ho | ⟨_, ho⟩
     ·exact absurd ho hne2
     ·obtain ⟨z, hz, h4⟩ := occ'_ex.1 ho
      exact ⟨z, hz, y, hy.2, h4⟩
    rw [this] at e; cases e
  | true =>
   show _ = false
   obtain ⟨z, hz, y, h1, h2⟩ := (aFt x).1 e
   have hyx := sX hk hz h2
   obtain ⟨w, hw, hxw⟩ := occ'_ex.1 ((hmem x).1 hx.1)
   have hyg : y ∈ (fQ [] cl).filter (jP cl) := List.mem_filter.2 ⟨(hmem y).2 (occ'_ex.2 ⟨w, hw, aFb w hyx hxw⟩), h1⟩
   obtain ⟨j, hj⟩ := List.getElem?_of_mem hyg
   have hne2 : y ≠ x := by
    rintro rfl
    have h3 := occ_sz z h2
    have h4 := aG hz
    have h5 := nR y
    omega
   have hij : 0 + j ≠ i := by
    intro h
    rw [Nat.zero_add] at h
    subst h
    rw [hj] at hi
    exact hne2 (Option.some.inj hi)
   cases hq : kpL i x 0 ((fQ [] cl).filter (jP cl)) with
   | false => rfl
   | true =>
    have := zJ.1 hq j y hj hij
    rw [hyx] at this; cases this
theorem aEp (cl : List G.T) : pT cl [] cl = kpA (flt cl [] (fQ [] cl)) 0 [] (flt cl [] (fQ [] cl)) := by rw [vis_law, kp_law]
end Go.TV
namespace Go.TV
open Go.AI Go.PI Go.Proofs
inductive It where
 | op
 | cl
 | wd (nu : Bool) (w : List UInt8)
def It.by' : It → List UInt8
 | .op => [40]
 | .cl => [41]
 | .wd _ w => w
def It.tk (p : Nat) : It → G.K
 | .op => ⟨1, (p : Int), [], [], []⟩
 | .cl => ⟨2, (p : Int), [], [], []⟩
 | .wd nu w => wtk nu (p : Int) w
abbrev Its := List (List UInt8 × It)
def yM : Its → List UInt8 → List UInt8
 | [], tl => tl
 | (b, t) :: l, tl => b ++ (t.by' ++ yM l tl)
def tks : Nat → Its → List G.K
 | _, [] => []
 | p, (b, t) :: l => t.tk (p + b.length) :: tks (p + b.length + t.by'.length) l
def isN : List UInt8 → Bool
 | [48] => true
 | [49] => true
 | [45, 49] => true
 | _ => false
def okW (nu : Bool) : List UInt8 → Bool
 | [] => false
 | x :: l => (x :: l).all (fun x => csI (u8 x)) && !decide (u8 x = 35) && (bif nu then isN (x :: l) else !decide (u8 x = 45) && (decide (u8 x < 48) || decide (57 < u8 x)) && !decide (x :: l = [46]) && Nat.ble (x :: l).length 40)
def stp : List UInt8 → Bool
 | [] => true
 | y :: _ => !csI (u8 y) && !decide (u8 y = 58)
def okT (r : List UInt8) : It → Bool
 | .wd nu w => okW nu w && stp r
 | _ => true
def okL : Its → List UInt8 → Bool
 | [], tl => tl.all fun x => blI (u8 x)
 | (b, t) :: l, tl => (b.all fun x => blI (u8 x)) && okT (yM l tl) t && okL l tl
theorem stp_h {r : List UInt8} (h : stp r = true) : ∀ y, r.head? = some y → csI (u8 y) = false ∧ u8 y ≠ 58 := by
 intro y hy
 cases r with
 | nil => cases hy
 | cons z r =>
  simp only [List.head?_cons, ojE] at hy; subst hy
  simpa [stp] using h
theorem bl_cs {x : Int} (h : csI x = true) : blI x = false := by
 simp only [csI, bjE, djE] at h
 simp only [blI, Bool.or_eq_false_iff, dfN]
 omega
theorem okT_h {t : It} {r : List UInt8} (h : okT r t = true) : ∀ y, (t.by' ++ r).head? = some y → blI (u8 y) = false ∧ u8 y ≠ 59 ∧ u8 y ≠ 35 := by
 intro y hy
 cases t with
 | op => simp [It.by'] at hy; subst hy; decide
 | cl => simp [It.by'] at hy; subst hy; decide
 | wd nu w =>
  cases w with
  | nil => simp [okT, okW] at h
  | cons x l =>
   simp [It.by'] at hy; subst hy
   simp only [okT, okW, bjE, alC, Bool.not_eq_true', dfN] at h
   exact ⟨bl_cs h.1.1.1.1, (aGu h.1.1.1.1).2.2.2.2.1, h.1.1.2⟩
theorem One_ok {s r : List UInt8} {t : It} {k L n : Nat} (hN : ∀ w, isN w = true → NumW (CTp L (n + 2)) w) (hb : s.length < 1000000000) (hL : s.length < L) (h : s.drop k = t.by' ++ r) (ht : okT r t = true) :
    CTp L (n + 3) 101 [yT s, yI (k : Int)] = some [yR 19 (t.tk k), yI ((k + t.by'.length : Nat) : Int), yR 17 ⟨0, 0⟩] := by
 cases t with
 | op => exact On_op hb h
 | cl => exact On_cl hb h
 | wd nu w =>
  cases w with
  | nil => simp [okT, okW] at ht
  | cons x l =>
   simp only [okT, okW, bjE, Bool.not_eq_true', dfN] at ht
   obtain ⟨⟨⟨h1, h2⟩, h3⟩, h4⟩ := ht
   refine On_w hb hL h (by simp) (fun y hy => List.all_eq_true.1 h1 y hy) (stp_h h4) ?_
   cases nu with
   | true => exact .inl ⟨rfl, hN _ h3⟩
   | false =>
    simp only [cdf, bjE, Bool.or_eq_true, Bool.not_eq_true', dfN, djE] at h3
    exact .inr ⟨rfl, x, l, rfl, h3.1.1.1, h3.1.1.2, h3.1.2, Nat.le_of_ble_eq_true h3.2⟩
theorem Tk_loop {s tl : List UInt8} {L n : Nat} {er : G.X} (hN : ∀ w, isN w = true → NumW (CTp L (n + 2)) w) (hb : s.length < 6001) (hL : s.length < L) :
    ∀ (l : Its) (k m : Nat) (acc : List G.K), s.drop k = yM l tl → k ≤ s.length → okL l tl = true → l.length < m → acc.length ≤ k → aAI (CTp L (n + 3)) L m (k : Int) s acc er = some [yS 19 (acc ++ tks k l ++ [⟨0, (s.length : Int), [], [], []⟩]), yR 17 ⟨0, 0⟩] := by
 intro l
 induction l with
 | nil =>
  intro k m acc h1 h2 h3 h4 h5
  obtain ⟨m, rfl⟩ : ∃ m', m = m' + 1 := ⟨m - 1, by simp at h4; omega⟩
  have hl := congrArg List.length h1
  simp [yM] at hl
  have hsk := Sk_ok (s := s) (w := tl) (r := []) (k := k) (L := L) (n := n + 1) (by omega) hL (by simpa [yM] using h1) (fun x hx => List.all_eq_true.1 h3 x hx) (by simp)
  have e1 : ((k + tl.length : Nat) : Int) = (s.length : Int) := by omega
  rw [aAI, B83x1, hsk, aBQ]
  simp only [bnT, aE]
  rw [e1]
  simp only [Int.le_refl, decide_true, aM]
  have e2 : Nat.ble ((acc.length + ([⟨0, (s.length : Int), [], [], []⟩] : List G.K).length) * 64) 1073741824 = true := by
   rw [Nat.ble_eq]; simp only [lcS, lnN]; omega
  rw [e2, nO, show tks k [] = [] from rfl, apN]; rfl
 | cons bt l ih =>
  obtain ⟨b, t⟩ := bt
  intro k m acc h1 h2 h3 h4 h5
  obtain ⟨m, rfl⟩ : ∃ m', m = m' + 1 := ⟨m - 1, by simp at h4; omega⟩
  simp only [okL, bjE] at h3
  obtain ⟨⟨h6, h7⟩, h8⟩ := h3
  have hl := congrArg List.length h1
  simp [yM] at hl
  have ht : 1 ≤ t.by'.length := by
   cases t with
   | op => exact nlR _
   | cl => exact nlR _
   | wd nu w => cases w with
    | nil => simp [okT, okW] at h7
    | cons x l => simp [It.by']
  have hsk := Sk_ok (s := s) (w := b) (r := t.by' ++ yM l tl) (k := k) (L := L) (n := n + 1) (by omega) hL h1 (fun x hx => List.all_eq_true.1 h6 x hx) (okT_h h7)
  have hd : s.drop (k + b.length) = t.by' ++ yM l tl := by rw [← List.drop_drop, h1]; simp [yM]
  have ho := One_ok (n := n) hN (by omega) hL hd h7
  have hd2 : s.drop (k + b.length + t.by'.length) = yM l tl := by rw [← List.drop_drop, hd]; simp
  rw [aAI, B83x1, hsk, aBQ]
  simp only [bnT, aE]
  have e1 : decide ((s.length : Int) ≤ ((k + b.length : Nat) : Int)) = false := by simp only [dfN]; omega
  rw [e1, aE, ho, obL_on]
  simp only [decide_true, bnT, aE]
  have e2 : Nat.ble ((acc.length + ([t.tk (k + b.length)] : List G.K).length) * 64) 1073741824 = true := by
   rw [Nat.ble_eq]; simp only [lcS, lnN]; omega
  rw [e2, nO, ih (k + b.length + t.by'.length) m _ hd2 (by omega) h8 (by simp at h4; omega) (by simp; omega)]
  simp [tks]
theorem Tok_ok {l : Its} {tl : List UInt8} {L n : Nat} (hN : ∀ w, isN w = true → NumW (CTp L (n + 2)) w) (hs : (yM l tl).length < 6001) (hL : (yM l tl).length < L) (hl : l.length < L) (ho : okL l tl = true) :
    CTp L (n + 4) 83 [yT (yM l tl)] = some [yS 19 (tks 0 l ++ [⟨0, ((yM l tl).length : Int), [], [], []⟩]), yR 17 ⟨0, 0⟩] := by
 show CTp L (n + 3 + 1) 83 _ = _
 have e1 : decide ((6000 : Int) < ((yM l tl).length : Int)) = false := by simp only [dfN]; omega
 rw [c83, F83, B83x0, e1, aE]
 exact Tk_loop (tl := tl) (er := ⟨0, 0⟩) hN hs hL l 0 L [] rfl (Nat.zero_le _) ho hl (nlR _)
end Go.TV
