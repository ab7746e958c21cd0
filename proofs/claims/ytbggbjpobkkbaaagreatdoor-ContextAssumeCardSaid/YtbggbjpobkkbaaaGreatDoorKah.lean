import Derived.Test.YtbggbjpobkkbaaaGreatDoorKz
import Derived.Test.YtbggbjpobkkbaaaGreatDoorKag
import Derived.Test.YtbggbjpobkkbaaaGreatDoorKx
import Derived.Test.YtbggbjpobkkbaaaGreatDoorKw
import Derived.Test.YtbggbjpobkkbaaaGreatDoorKy
import Derived.Test.YtbggbjpobkkbaaaGreatDoorKs
import Derived.Test.YtbggbjpobkkbaaaGreatDoorKv
import Derived.Test.YtbggbjpobkkbaaaGreatDoorKq
set_option linter.unusedVariables false
set_option linter.unusedSimpArgs false
set_option linter.constructorNameAsVariable false
namespace Go.TV
open Go.AI Go.PI Go.Proofs
set_option maxRecDepth 20000
section
variable (L : Nat) {E : List G.E} (hE : WOK E)
theorem vY {n : Nat} (h : 60 ≤ n) : Lib (CTp (L + 7000) n) := by
 obtain ⟨m, rfl⟩ : ∃ m, n = m + 60 := ⟨n - 60, by omega⟩
 exact lib_ok L m
theorem va_n {n : Nat} (h : 61 ≤ n) (s : G.Z) (hs : cG s) : TSR (CTp (L + 7000) n 21 [yR 0 s]) 6 := by
 obtain ⟨m, rfl⟩ : ∃ m, n = m + 1 := ⟨n - 1, by omega⟩
 rw [c21];exact Va_ok (vY L (by omega)) hs
theorem o0_n {n : Nat} (h : 61 ≤ n) (s : G.Z) (hs : cG s) : OSR (CTp (L + 7000) n 44 [yI (0 : Int), yR 0 s]) 20 := by
 obtain ⟨m, rfl⟩ : ∃ m, n = m + 1 := ⟨n - 1, by omega⟩
 rw [c44];exact Ob0 (vY L (by omega)) hs
theorem o1_n {n : Nat} (h : 62 ≤ n) (s : G.Z) (hs : cG s) : OSR (CTp (L + 7000) n 44 [yI (1 : Int), yR 0 s]) 200 := by
 obtain ⟨m, rfl⟩ : ∃ m, n = m + 1 := ⟨n - 1, by omega⟩
 rw [c44];exact Ob1 (vY L (by omega)) (by omega) (o0_n L (by omega)) hs
include hE
theorem ar_n {n : Nat} (h : 4 ≤ n) (f : G.Y) : ArR (CTp (L + 7000) n 49 [yS 15 E, yR 1 f]) := by
 obtain ⟨m, rfl⟩ : ∃ m, n = m + 4 := ⟨n - 4, by omega⟩
 exact Ar_ok hE f (by omega)
theorem t0_n {n : Nat} (h : 63 ≤ n) (s : G.Z) (hs : cG s) : TSR (CTp (L + 7000) n 20 [yS 15 E, yI (0 : Int), yR 0 s]) 204 := by
 obtain ⟨m, rfl⟩ : ∃ m, n = m + 1 := ⟨n - 1, by omega⟩
 rw [c20];exact Te_ok (vY L (by omega)) (by omega) (B := 204) (by omega) (by omega) (va_n L (by omega)) (o1_n L (by omega)) (ar_n L hE (by omega)) (fun h => by omega) hs
theorem t1_n {n : Nat} (h : 64 ≤ n) (s : G.Z) (hs : cG s) : TSR (CTp (L + 7000) n 20 [yS 15 E, yI (1 : Int), yR 0 s]) 621 := by
 obtain ⟨m, rfl⟩ : ∃ m, n = m + 1 := ⟨n - 1, by omega⟩
 rw [c20];exact Te_ok (vY L (by omega)) (by omega) (B := 204) (by omega) (by omega) (va_n L (by omega)) (o1_n L (by omega)) (ar_n L hE (by omega)) (fun _ => t0_n L hE (by omega)) hs
theorem t2_n {n : Nat} (h : 65 ≤ n) (s : G.Z) (hs : cG s) : TSR (CTp (L + 7000) n 20 [yS 15 E, yI (2 : Int), yR 0 s]) 1872 := by
 obtain ⟨m, rfl⟩ : ∃ m, n = m + 1 := ⟨n - 1, by omega⟩
 rw [c20];exact Te_ok (vY L (by omega)) (by omega) (B := 621) (by omega) (by omega) (va_n L (by omega)) (o1_n L (by omega)) (ar_n L hE (by omega)) (fun _ => t1_n L hE (by omega)) hs
theorem li_n {n : Nat} (h : 66 ≤ n) (s : G.Z) (hs : cG s) : TSR (CTp (L + 7000) n 5 [yS 15 E, yI (2 : Int), yR 0 s]) 2523 := by
 obtain ⟨m, rfl⟩ : ∃ m, n = m + 1 := ⟨n - 1, by omega⟩
 rw [c5];exact Li_ok (vY L (by omega)) (va_n L (by omega)) (t2_n L hE (by omega)) (t1_n L hE (by omega)) hs
end
theorem smF_ok {E : List G.E} (h : smF E = true) : WOK E := by
 simp only [smF, smE, bjE, List.all_eq_true] at h;exact ⟨Nat.le_of_ble_eq_true h.1, fun e he => Nat.le_of_ble_eq_true (h.2 e he).1, fun e he f hf => Nat.le_of_ble_eq_true ((h.2 e he).2 f hf)⟩
theorem obL_en {β : Type} {a : List G.E} {K : List G.E × Unit → Option β} : obL (D := U0.D) [.sl (.rc 15)] (some [yS 15 a]) K = K (a, ()) := rfl
end Go.TV
namespace Go.TV
open Go.AI Go.PI Go.Proofs
set_option maxRecDepth 20000
section
variable {c : TC0} (h : Lib c) {E : List G.E}
include h
set_option linter.unusedSectionVars false in
theorem C6_loop {L : Nat} (hl : ∀ s, cG s → TSR (c 5 [⟨.sl (.rc 15), E⟩, ⟨.int .i64, (2 : Int)⟩, ⟨.rc 0, s⟩]) 2523)
    (ha : ∀ (a : List G.T) (t : G.T), cP a < 50000 → AdR (c 18 [⟨.sl (.rc 3), a⟩, ⟨.sl (.rc 3), ([t] : List G.T)⟩]) (cP a + tsz t + 1)) {r : Nat} (hr : r ≤ 6) :
    ∀ (j k m : Nat) (a : List G.T) (s : G.Z), r = k + j → cP a ≤ 2524 * k → j < m → cG s → ClR (W3x1 c L m (r : Int) E 2 (k : Int) a s) 15144 := by
 intro j;induction j with
 | zero =>
  intro k m a s h1 h4 h5 hs;obtain ⟨m, rfl⟩ : ∃ m', m = m' + 1 := ⟨m - 1, by omega⟩
  have e3 : decide ((k : Int) < (r : Int)) = false := by simp; omega
  rw [W3x1, B3x1, e3, aJ];exact ⟨a, s, rfl, by omega, hs⟩
 | succ j ih =>
  intro k m a s h1 h4 h5 hs;obtain ⟨m, rfl⟩ : ∃ m', m = m' + 1 := ⟨m - 1, by omega⟩
  have e3 : decide ((k : Int) < (r : Int)) = true := by simp; omega
  obtain ⟨t, s', e, g1, g2⟩ := hl s hs;obtain ⟨a2, e2, g3⟩ := ha a t (by omega)
  rw [W3x1, B3x1, e3, aW, e, kF];simp only [];rw [e2, rA, dQ (by omega)]
  exact ih (k + 1) m a2 s' (by omega) (by omega) (by omega) g2
theorem C6_ok {L : Nat} (hL : 10 ≤ L) (hl : ∀ s, cG s → TSR (c 5 [⟨.sl (.rc 15), E⟩, ⟨.int .i64, (2 : Int)⟩, ⟨.rc 0, s⟩]) 2523)
    (ha : ∀ (a : List G.T) (t : G.T), cP a < 50000 → AdR (c 18 [⟨.sl (.rc 3), a⟩, ⟨.sl (.rc 3), ([t] : List G.T)⟩]) (cP a + tsz t + 1)) {s : G.Z} (hs : cG s) : ClR (F3 c L E 6 2 s) 15144 := by
 obtain ⟨r, s', e, g1, g2, g3⟩ := h.nx s 6 hs (by omega)
 rw [F3, B3x0, e, iN];obtain ⟨m, rfl⟩ : ∃ m : Nat, r = (m : Int) := ⟨r.toNat, by omega⟩
 have e1 : IntKind.i64.wrap ((1 : Int) + (m : Int)) = ((m + 1 : Nat) : Int) := by rw [Int.add_comm]; exact dQ (by omega)
 simp only [e1];exact C6_loop h hl ha (by omega) (m + 1) 0 L [] s' (by omega) (Nat.zero_le _) (by omega) g3
end
theorem c6_n (L : Nat) {E : List G.E} (hE : WOK E) (hL : 60000 ≤ L) {n : Nat} (h : 60000 ≤ n) (s : G.Z) (hs : cG s) : ClR (CTp (L + 7000) n 3 [⟨.sl (.rc 15), E⟩, ⟨.int .i64, (6 : Int)⟩, ⟨.int .i64, (2 : Int)⟩, ⟨.rc 0, s⟩]) 15144 := by
 obtain ⟨m, rfl⟩ : ∃ m, n = m + 1 := ⟨n - 1, by omega⟩
 obtain ⟨m2, rfl⟩ : ∃ k, m = k + 1 := ⟨m - 1, by omega⟩
 rw [c3];exact C6_ok (vY L (by omega)) (by omega) (li_n L hE (by omega)) (fun a t hw => Ad_ok (by omega) (by omega) (by omega)) hs
end Go.TV
namespace Go.TV
open Go.AI Go.PI Go.Proofs
def sB : List UInt8 := [110, 111, 116]
theorem aAV (x : G.T) : cP x.args + 4 ≤ tsz x := by cases x; simp only [G.T.args, tsz]; omega
theorem aEZ {x : G.T} {s : List UInt8} {k : Nat} (h : isA x s (k : Int) = true) : x.args.length = k := by
 simp only [isA, bjE, djE] at h; omega
theorem len1 {l : List G.T} (h : l.length = 1) : ∃ p, l = [p] := by
 match l, h with
 | [p], _ => exact ⟨p, rfl⟩
end Go.TV
namespace Go.TV
open Go.AI Go.PI Go.Proofs
set_option maxRecDepth 20000
theorem rZ {β : Type} {b : G.T} {K : G.T × Unit → Option β} : obL (D := U0.D) [.rc 3] (some [⟨.rc 3, b⟩]) K = K (b, ()) := rfl
def zOb : G.O := ⟨0, [], [], ⟨[], []⟩, [], []⟩
def lsp (f : List UInt8) (l : List G.T) : G.T := ⟨3, ⟨kS, f⟩, zOb, l⟩
def neg (t : G.T) : G.T := if isA t sB 1 then t.args.headD t else lsp sB [t]
theorem cIs_ok {t : G.T} {s : List UInt8} {k : Int} {L n : Nat} : CTp L (n + 1) 42 (tsi t s k) = some (bb (isA t s k)) := by
 show CTp L (n + 1) 42 [⟨.rc 3, _⟩, ⟨.str, _⟩, ⟨.int .i64, _⟩] = _;rw [c42, F42, B42x0];simp only [J42x1, B42x1, isA];by_cases e1 : t.kind = 3
 ·by_cases e2 : t.name = ⟨kS, s⟩
  ·have e2' : t.name = G.Y.mk [108, 105, 115, 112] s := e2;simp [e1, e2, e2', cnd, bb, kS]
  ·have e2' : ¬ t.name = G.Y.mk [108, 105, 115, 112] s := e2;simp [e1, e2, e2', cnd, bb, kS]
 ·simp [e1, cnd, bb]
theorem LispP_ok {s : List UInt8} {l : List G.T} {L n : Nat} : CTp L (n + 2) 43 [⟨.str, s⟩, ⟨.sl (.rc 3), l⟩] = some [⟨.rc 3, lsp s l⟩] := by
 rw [c43, F43, B43x0, c66]; rfl
theorem LispR_ok {s : List UInt8} {l : List G.T} {L n : Nat} : CTp L (n + 2) 26 [⟨.str, s⟩, ⟨.sl (.rc 3), l⟩] = some [⟨.rc 3, lsp s l⟩] := by
 rw [c26, F26, B26x0, aGC, obL_y];simp only [];rw [c40]; rfl
theorem aEM {t : G.T} {L n : Nat} : CTp L (n + 3) 19 [⟨.rc 3, t⟩] = some [⟨.rc 3, neg t⟩] := by
 have h1 : CTp L (n + 2) 42 [⟨.rc 3, t⟩, ⟨.str, sB⟩, ⟨.int .i64, (1 : Int)⟩] = some [⟨.bool, isA t sB 1⟩] := cIs_ok;have h2 : CTp L (n + 2) 43 [⟨.str, sB⟩, ⟨.sl (.rc 3), ([t] : List G.T)⟩] = some [⟨.rc 3, lsp sB [t]⟩] := LispP_ok;simp only [sB] at h1 h2;rw [c19, F19, B19x0, h1, fE];change cnd (isA t sB 1) _ _ = _;cases e : isA t sB 1 with
 | false => rw [aJ, show neg t = lsp sB [t] from by simp [neg, e]]; erw [h2]; rw [rZ]; rfl
 | true =>
  obtain ⟨p, hp⟩ := len1 (aEZ (k := 1) e);rw [aW, hp];simp [neg, e, hp, idx, ob]
theorem aEL {t : G.T} {L n : Nat} : CTp L (n + 3) 22 [⟨.rc 3, t⟩] = some [⟨.rc 3, neg t⟩] := by
 have h1 : CTp L (n + 2) 50 [⟨.rc 3, t⟩, ⟨.str, sB⟩, ⟨.int .i64, (1 : Int)⟩] = some [⟨.bool, isA t sB 1⟩] := Is_ok;have h2 : CTp L (n + 2) 26 [⟨.str, sB⟩, ⟨.sl (.rc 3), ([t] : List G.T)⟩] = some [⟨.rc 3, lsp sB [t]⟩] := LispR_ok;simp only [sB] at h1 h2;rw [c22, F22, B22x0, h1, fE];change cnd (isA t sB 1) _ _ = _;cases e : isA t sB 1 with
 | false => rw [aJ, show neg t = lsp sB [t] from by simp [neg, e]]; erw [h2]; rw [rZ]; rfl
 | true =>
  obtain ⟨p, hp⟩ := len1 (aEZ (k := 1) e);rw [aW, hp];simp [neg, e, hp, idx, ob]
end Go.TV
namespace Go.TV
open Go.AI Go.PI Go.Proofs
set_option maxRecDepth 20000
theorem oM (t : G.T) : 4 ≤ tsz t := by have := aAV t; omega
theorem aBy (t : G.T) : tsz (neg t) ≤ tsz t + 7 := by
 unfold neg;split
 ·have := aAV t
  match h : t.args with
  | [] => simp only [List.headD_nil]; omega
  | x :: l => rw [h] at this; simp only [cP] at this; simp only [List.headD_cons]; omega
 ·rw [show lsp sB [t] = tA ⟨kS, sB⟩ [t] from rfl, qV]; simp only [cP]; omega
noncomputable def asm (i : Int) : Nat → List G.T → List G.T
 | _, [] => []
 | k, t :: l => bif !decide ((k : Int) = i) then neg t :: asm i (k + 1) l else asm i (k + 1) l
theorem asm_sz (i : Int) : ∀ (l : List G.T) (k : Nat), cP (asm i k l) ≤ 3 * cP l
 | [], _ => nlR _
 | t :: l, k => by
  have h1 := asm_sz i l (k + 1);have h2 := aBy t;have h3 := oM t;rw [asm];cases !decide ((k : Int) = i) with
  | true => simp only [cdt, cP]; omega
  | false => simp only [cdf, cP]; omega
theorem aHb {c : TC0} {L : Nat} {i : Int} {a : List G.T} (hb : a.length < 1000000) (hc : ∀ x, c 19 [⟨.rc 3, x⟩] = some [⟨.rc 3, neg x⟩]) : ∀ (l : List G.T) (k m : Nat) (o : List G.T), a.drop k = l → o.length ≤ k → l.length < m →
    W4x1 c L m (a.length : Int) a i (k : Int) o = some [⟨.sl (.rc 3), o ++ asm i k l⟩] := by
 intro l;induction l with
 | nil =>
  intro k m o h1 ho h3;obtain ⟨m, rfl⟩ : ∃ m', m = m' + 1 := ⟨m - 1, by simp at h3; omega⟩
  have e1 := bE h1;have e3 : decide ((k : Int) < (a.length : Int)) = false := by simp; omega
  rw [W4x1, B4x1, e3, aJ, asm, apN]
 | cons x l ih =>
  intro k m o h1 ho h3;obtain ⟨m, rfl⟩ : ∃ m', m = m' + 1 := ⟨m - 1, by simp at h3; omega⟩
  obtain ⟨a1, a2, a3⟩ := bD h1;have e3 : decide ((k : Int) < (a.length : Int)) = true := by simp; omega
  rw [W4x1, B4x1, e3, aW, aM, a1, eR, asm];cases !decide ((k : Int) = i) with
  | true =>
   rw [aW, hc x, rZ];simp only [];rw [show Nat.ble ((List.length o + List.length ([neg x] : List G.T)) * 176) 1073741824 = true from Nat.ble_eq_true_of_le (by simp only [lcS, lnN]; omega), qF, J4x2, B4x2, dQ (by omega),
    ih (k + 1) m (o ++ [neg x]) a3 (by simp; omega) (by simp at h3; omega), cdt, apA]; rfl
  | false =>
   rw [aJ, J4x2, B4x2, dQ (by omega), ih (k + 1) m o a3 (by omega) (by simp at h3; omega), cdf]
theorem aHa {c : TC0} {L : Nat} {i : Int} {a : List G.T} (hb : a.length < 1000000) (hc : ∀ x, c 22 [⟨.rc 3, x⟩] = some [⟨.rc 3, neg x⟩]) : ∀ (l : List G.T) (k m : Nat) (o : List G.T), a.drop k = l → o.length ≤ k → l.length < m →
    W6x1 c L m i a (k : Int) o = some [⟨.sl (.rc 3), o ++ asm i k l⟩] := by
 intro l;induction l with
 | nil =>
  intro k m o h1 ho h3;obtain ⟨m, rfl⟩ : ∃ m', m = m' + 1 := ⟨m - 1, by simp at h3; omega⟩
  have e1 := bE h1;have e3 : decide ((k : Int) < (a.length : Int)) = false := by simp; omega
  rw [W6x1, B6x1, e3, aJ, asm, apN]
 | cons x l ih =>
  intro k m o h1 ho h3;obtain ⟨m, rfl⟩ : ∃ m', m = m' + 1 := ⟨m - 1, by simp at h3; omega⟩
  obtain ⟨a1, a2, a3⟩ := bD h1;have e3 : decide ((k : Int) < (a.length : Int)) = true := by simp; omega
  rw [W6x1, B6x1, e3, aW, asm];cases !decide ((k : Int) = i) with
  | true =>
   rw [aW, aM, a1, eR, hc x, rZ];simp only [];rw [show Nat.ble ((List.length o + List.length ([neg x] : List G.T)) * 176) 1073741824 = true from Nat.ble_eq_true_of_le (by simp only [lcS, lnN]; omega), qF, J6x2, B6x2, dQ (by omega),
    ih (k + 1) m (o ++ [neg x]) a3 (by simp; omega) (by simp at h3; omega), cdt, apA]; rfl
  | false =>
   rw [aJ, J6x2, B6x2, dQ (by omega), ih (k + 1) m o a3 (by omega) (by simp at h3; omega), cdf]
theorem AsmP_ok {a : List G.T} {i : Int} {L n : Nat} (hb : a.length < 1000000) (hL : a.length < L) : CTp L (n + 4) 4 [⟨.sl (.rc 3), a⟩, ⟨.int .i64, i⟩] = some [⟨.sl (.rc 3), asm i 0 a⟩] := by
 rw [c4];exact aHb hb (fun x => aEM) a 0 L [] rfl (nlR _) hL
theorem AsmR_ok {a : List G.T} {i : Int} {L n : Nat} (hb : a.length < 1000000) (hL : a.length < L) : CTp L (n + 4) 6 [⟨.sl (.rc 3), a⟩, ⟨.int .i64, i⟩] = some [⟨.sl (.rc 3), asm i 0 a⟩] := by
 rw [c6];exact aHa hb (fun x => aEL) a 0 L [] rfl (nlR _) hL
end Go.TV
namespace Go.TV
open Go.AI Go.PI Go.Proofs
set_option maxRecDepth 20000
theorem Cln_ok {a : List G.T} (h : a.length < 1000000) {L n : Nat} : CTp L (n + 1) 53 [⟨.sl (.rc 3), a⟩] = some [⟨.sl (.rc 3), a⟩] := by
 rw [c53, F53, B53x0];cases a with
 | nil => rfl
 | cons x l =>
  have e1 : decide (((x :: l).length : Int) = 0) = false := by simp; omega
  have e2 : Nat.ble ((([] : List G.T).length + (x :: l).length) * 176) 1073741824 = true := by
   rw [Nat.ble_eq]; simp only [lnN, Nat.zero_add]; omega
  rw [e1, aJ, e2]; rfl
end Go.TV
namespace Go.TV
open Go.AI Go.PI Go.Proofs
set_option maxRecDepth 20000
theorem obL_it {β : Type} {a : Int} {b : G.T} {K : Int × G.T × Unit → Option β} : obL (D := U0.D) [.int .i64, .rc 3] (some [⟨.int .i64, a⟩, ⟨.rc 3, b⟩]) K = K (a, b, ()) := rfl
theorem Ix_loop {c : TC0} {L : Nat} {t : G.T} {a : List G.T} (hb : a.length < 1000000000) : ∀ (l : List G.T) (k m : Nat), a.drop k = l → l.length < m →
    (∀ x, x ∈ l → c 112 [⟨.rc 3, x⟩, ⟨.rc 3, t⟩] = some [⟨.bool, decide (x = t)⟩, ⟨.rc 3, t⟩]) →
    ∃ i : Int, uR c L m (a.length : Int) a (k : Int) t = some [⟨.int .i64, i⟩, ⟨.rc 3, t⟩] ∧ decide (0 ≤ i) = decide (t ∈ l) := by
 intro l;induction l with
 | nil =>
  intro k m h1 h3 _;obtain ⟨m, rfl⟩ : ∃ m', m = m' + 1 := ⟨m - 1, by simp at h3; omega⟩
  have e1 := bE h1;have e3 : decide ((k : Int) < (a.length : Int)) = false := by simp; omega
  refine ⟨-1, ?_, by simp⟩
  rw [uR, aGQ, e3, aJ]
 | cons x l ih =>
  intro k m h1 h3 hc;obtain ⟨m, rfl⟩ : ∃ m', m = m' + 1 := ⟨m - 1, by simp at h3; omega⟩
  obtain ⟨a1, a2, a3⟩ := bD h1;have e3 : decide ((k : Int) < (a.length : Int)) = true := by simp; omega
  have hxy := hc x (mhE ..);by_cases e : x = t
  ·subst e;refine ⟨k, ?_, by simp⟩
   rw [uR, aGQ, e3, aW, aM, a1, eR, hxy, aEH];simp [cnd]
  ·have e' : ¬ t = x := fun h => e h.symm
   obtain ⟨i, h4, h5⟩ := ih (k + 1) m a3 (by simp at h3; omega) fun z hz => hc z (mtE _ hz)
   refine ⟨i, ?_, by simpa [e'] using h5⟩
   rw [uR, aGQ, e3, aW, aM, a1, eR, hxy, aEH, dQ (by omega)]
   simp only [e, decide_false, aJ];exact h4
theorem Cq_ok {x t : G.T} {L n : Nat} (h : ∀ y : G.T, CTp L n 136 [⟨.rc 3, x⟩, ⟨.rc 3, y⟩] = some [⟨.bool, decide (x = y)⟩]) : CTp L (n + 1) 112 [⟨.rc 3, x⟩, ⟨.rc 3, t⟩] = some [⟨.bool, decide (x = t)⟩, ⟨.rc 3, t⟩] := by
 rw [c112, F112, aG9, h t, fE]
theorem ConP_ok {a : List G.T} {t : G.T} {L n : Nat} (hw : cP a < 1000000000) (hL : a.length < L) (h : ∀ x ∈ a, ∀ y : G.T, CTp L n 136 [⟨.rc 3, x⟩, ⟨.rc 3, y⟩] = some [⟨.bool, decide (x = y)⟩]) :
    CTp L (n + 4) 54 [⟨.sl (.rc 3), a⟩, ⟨.rc 3, t⟩] = some [⟨.bool, decide (t ∈ a)⟩] := by
 have hlen := fA a;obtain ⟨i, h1, h2⟩ := Ix_loop (c := CTp L (n + 1)) (L := L) (t := t) (a := a) (by omega) a 0 L rfl hL fun x hx => Cq_ok (h x hx)
 rw [c54, F54, B54x0, c74, F74, B74x0, c89, F89, B89x0];rw [show uR (CTp L (n + 1)) L L (a.length : Int) a (0 : Int) t = some [⟨.int .i64, i⟩, ⟨.rc 3, t⟩] from h1, obL_it, aEH, h2]
end Go.TV
namespace Go.TV
open Go.AI Go.PI Go.Proofs
set_option maxRecDepth 20000
noncomputable def yD (a : List G.T) (t : G.T) : List G.T := bif decide (t ∈ a) then a else a ++ [t]
theorem AddP_of {c : TC0} {L : Nat} {a : List G.T} {t : G.T} (hL : 3 ≤ L) (ha : a.length < 1000000) (h1 : c 53 [⟨.sl (.rc 3), a⟩] = some [⟨.sl (.rc 3), a⟩])
    (h2 : c 54 [⟨.sl (.rc 3), a⟩, ⟨.rc 3, t⟩] = some [⟨.bool, decide (t ∈ a)⟩]) : F24 c L a [t] = some [⟨.sl (.rc 3), yD a t⟩] := by
 obtain ⟨L, rfl⟩ : ∃ L', L = L' + 2 := ⟨L - 2, by omega⟩
 have e0 : decide ((0 : Int) < (([t] : List G.T).length : Int)) = true := by simp
 have e1 : decide ((1 : Int) < (([t] : List G.T).length : Int)) = false := by simp
 have e2 : Nat.ble ((a.length + ([t] : List G.T).length) * 176) 1073741824 = true := by
  rw [Nat.ble_eq]; simp only [lcS, lnN]; omega
 have e4 : idx [t] (0 : Int) = some t := rfl;have e5 : IntKind.i64.wrap ((0 : Int) + 1) = 1 := by decide
 rw [F24, B24x0, h1, rA];simp only [];rw [aAN, aGR, e0, aW, e4, eR, h2, fE];cases h : decide (t ∈ a) with
 | true =>
  simp only [bnT, aJ, J24x2, B24x2];rw [e5, aAN, aGR, e1, aJ, yD, h]; rfl
 | false =>
  simp only [Bool.not_false, aW];rw [e2, qF, J24x2, B24x2, e5, aAN, aGR, e1, aJ, yD, h]; rfl
end Go.TV
namespace Go.TV
open Go.AI Go.PI Go.Proofs
set_option maxRecDepth 20000
theorem AddR_ok {a : List G.T} {t : G.T} {L n : Nat} (hw : cP a < 1000000) (hL : cP a + 10 < L) (hn : cP a < n) : CTp L (n + 1) 18 [⟨.sl (.rc 3), a⟩, ⟨.sl (.rc 3), ([t] : List G.T)⟩] = some [⟨.sl (.rc 3), yD a t⟩] := by
 have hlen := fA a;obtain ⟨L, rfl⟩ : ∃ L', L = L' + 2 := ⟨L - 2, by omega⟩
 refine (c18 a [t] (L + 2) n).trans ?_;rw [F18, B18x0];have e0 : IntKind.i64.wrap ((a.length : Int) + (([t] : List G.T).length : Int)) = ((a.length + 1 : Nat) : Int) := dQ (by omega)
 have e1 : decide ((0 : Int) ≤ ((a.length + 1 : Nat) : Int)) = true := by simp only [djE]; omega
 have e2 : decide (((a.length + 1 : Nat) : Int) * 176 ≤ 1073741824) = true := by simp only [djE]; omega
 have e3 : decide (((a.length + 1 : Nat) : Int) ≤ 1073741824) = true := by simp only [djE]; omega
 have e4 : Nat.ble ((([] : List G.T).length + a.length) * 176) 1073741824 = true := by rw [Nat.ble_eq]; simp only [lnN]; omega
 rw [e0, e1, e2, e3, e4];show rG (CTp (L + 2) n) (L + 2) (L + 2) [t] 0 a = _;rw [rG, B18x1, show decide ((0 : Int) < (([t] : List G.T).length : Int)) = true by rfl, aW, show idx ([t] : List G.T) 0 = some t from rfl, eR]
 have hc : CTp (L + 2) n 41 [⟨.sl (.rc 3), a⟩, ⟨.rc 3, t⟩] = some [⟨.bool, decide (t ∈ a)⟩] := Con_ok (by omega) (by omega) hn
 rw [hc, fE];have fin : ∀ l : List G.T, aDj (CTp (L + 2) n) (L + 2) (rG (CTp (L + 2) n) (L + 2) (L + 1)) 0 [t] l = some [⟨.sl (.rc 3), l⟩] := fun l => by
  rw [aDj, B18x2]; rfl
 have e5 : Nat.ble ((a.length + ([t] : List G.T).length) * 176) 1073741824 = true := by rw [Nat.ble_eq]; simp only [lcS, lnN]; omega
 unfold yD;cases decide (t ∈ a) with
 | true => exact fin a
 | false =>
  simp only [Bool.not_false, aW, eR, e5, qF];exact fin (a ++ [t])
end Go.TV
namespace Go.TV
open Go.AI Go.PI Go.Proofs
set_option maxRecDepth 20000
noncomputable def cnc (o : List G.T) : List G.T → List G.T
 | [] => o
 | t :: l => cnc (yD o (neg t)) l
theorem uP (a : List G.T) (t : G.T) : cP (yD a t) ≤ cP a + tsz t + 1 := by
 unfold yD;cases decide (t ∈ a) with
 | true => simp only [cdt]; omega
 | false => simp only [cdf]; rw [tsz'_app]; omega
theorem cnc_sz : ∀ (l o : List G.T), cP (cnc o l) ≤ cP o + 3 * cP l
 | [], o => nlR _
 | t :: l, o => by
  have h1 := cnc_sz l (yD o (neg t));have h2 := uP o (neg t);have h3 := aBy t;have h4 := oM t;simp only [cnc, cP]; omega
def AddAt (c : TC0) (f : Nat) (B : Nat) : Prop := ∀ (a : List G.T) (t : G.T), cP a ≤ B → c f [⟨.sl (.rc 3), a⟩, ⟨.sl (.rc 3), ([t] : List G.T)⟩] = some [⟨.sl (.rc 3), yD a t⟩]
theorem aGO {c : TC0} {L B : Nat} {t : G.T} {a : List G.T} (hb : a.length < 1000000) (hc : ∀ x, c 19 [⟨.rc 3, x⟩] = some [⟨.rc 3, neg x⟩]) (ha : AddAt c 24 B) : ∀ (l : List G.T) (k m : Nat) (o : List G.T), a.drop k = l → cP o + 3 * cP l ≤ B → l.length < m →
    W8x1 c L m (a.length : Int) a (k : Int) o t = some [⟨.sl (.rc 3), yD (cnc o l) t⟩] := by
 intro l;induction l with
 | nil =>
  intro k m o h1 ho h3;obtain ⟨m, rfl⟩ : ∃ m', m = m' + 1 := ⟨m - 1, by simp at h3; omega⟩
  have e1 := bE h1;have e3 : decide ((k : Int) < (a.length : Int)) = false := by simp; omega
  rw [W8x1, B8x1, e3, aJ, ha o t (by omega), rA]; rfl
 | cons x l ih =>
  intro k m o h1 ho h3;obtain ⟨m, rfl⟩ : ∃ m', m = m' + 1 := ⟨m - 1, by simp at h3; omega⟩
  obtain ⟨a1, a2, a3⟩ := bD h1;have e3 : decide ((k : Int) < (a.length : Int)) = true := by simp; omega
  have h5 := uP o (neg x);have h6 := aBy x;have h7 := oM x;simp only [cP] at ho;rw [W8x1, B8x1, e3, aW, aM, a1, eR, hc x, rZ];simp only [];rw [ha o (neg x) (by omega), rA, dQ (by omega)]
  exact ih (k + 1) m (yD o (neg x)) a3 (by omega) (by simp at h3; omega)
theorem aGN {c : TC0} {L B : Nat} {t : G.T} {a : List G.T} (hb : a.length < 1000000) (hc : ∀ x, c 22 [⟨.rc 3, x⟩] = some [⟨.rc 3, neg x⟩]) (ha : AddAt c 18 B) : ∀ (l : List G.T) (k m : Nat) (o : List G.T), a.drop k = l → cP o + 3 * cP l ≤ B → l.length < m →
    W9x1 c L m a (k : Int) o t = some [⟨.sl (.rc 3), yD (cnc o l) t⟩] := by
 intro l;induction l with
 | nil =>
  intro k m o h1 ho h3;obtain ⟨m, rfl⟩ : ∃ m', m = m' + 1 := ⟨m - 1, by simp at h3; omega⟩
  have e1 := bE h1;have e3 : decide ((k : Int) < (a.length : Int)) = false := by simp; omega
  rw [W9x1, B9x1, e3, aJ, ha o t (by omega), rA]; rfl
 | cons x l ih =>
  intro k m o h1 ho h3;obtain ⟨m, rfl⟩ : ∃ m', m = m' + 1 := ⟨m - 1, by simp at h3; omega⟩
  obtain ⟨a1, a2, a3⟩ := bD h1;have e3 : decide ((k : Int) < (a.length : Int)) = true := by simp; omega
  have h5 := uP o (neg x);have h6 := aBy x;have h7 := oM x;simp only [cP] at ho;rw [W9x1, B9x1, e3, aW, aM, a1, eR, hc x, rZ];simp only [];rw [ha o (neg x) (by omega), rA, dQ (by omega)]
  exact ih (k + 1) m (yD o (neg x)) a3 (by omega) (by simp at h3; omega)
theorem addP_at {L n B : Nat} (h1 : B < 180000) (hL : B + 100 ≤ L) (hn : B + 100 ≤ n) : AddAt (CTp L n) 24 B := fun a t hw => by
 have hlen := fA a;obtain ⟨n, rfl⟩ : ∃ n', n = n' + 6 := ⟨n - 6, by omega⟩
 rw [c24];refine AddP_of (by omega) (by omega) (Cln_ok (by omega)) (ConP_ok (L := L) (n := n + 1) (by omega) (by omega) fun x hx y => ?_)
 have := dY hx;exact TEq_ok x (by simp only [wfT]; omega) y L (n + 1) (by omega) (by omega)
theorem addR_at {L n B : Nat} (h1 : B < 180000) (hL : B + 100 ≤ L) (hn : B + 100 ≤ n) : AddAt (CTp L n) 18 B := fun a t hw => by
 obtain ⟨n, rfl⟩ : ∃ n', n = n' + 1 := ⟨n - 1, by omega⟩
 exact AddR_ok (by omega) (by omega) (by omega)
theorem CncP_ok {a : List G.T} {t : G.T} {L n : Nat} (hw : 3 * cP a < 180000) (hL : 3 * cP a + 100 ≤ L) (hn : 3 * cP a + 101 ≤ n) : CTp L n 8 [⟨.sl (.rc 3), a⟩, ⟨.rc 3, t⟩] = some [⟨.sl (.rc 3), yD (cnc [] a) t⟩] := by
 have hlen := fA a;obtain ⟨n, rfl⟩ : ∃ n', n = n' + 4 := ⟨n - 4, by omega⟩
 rw [c8];exact aGO (B := 3 * cP a) (by omega) (fun x => aEM) (addP_at hw (by omega) (by omega)) a 0 L [] rfl (by simp only [cP]; omega) (by omega)
theorem CncR_ok {a : List G.T} {t : G.T} {L n : Nat} (hw : 3 * cP a < 180000) (hL : 3 * cP a + 100 ≤ L) (hn : 3 * cP a + 101 ≤ n) : CTp L n 9 [⟨.sl (.rc 3), a⟩, ⟨.rc 3, t⟩] = some [⟨.sl (.rc 3), yD (cnc [] a) t⟩] := by
 have hlen := fA a;obtain ⟨n, rfl⟩ : ∃ n', n = n' + 4 := ⟨n - 4, by omega⟩
 rw [c9];exact aGN (B := 3 * cP a) (by omega) (fun x => aEL) (addR_at hw (by omega) (by omega)) a 0 L [] rfl (by simp only [cP]; omega) (by omega)
end Go.TV
namespace Go.TV
open Go.AI Go.PI Go.Proofs
theorem aGA {c : TC0} {L : Nat} {a b : List G.T} (hl : a.length = b.length) (hb : a.length < 1000000000) : ∀ (l r : List G.T) (k m : Nat), a.drop k = l → b.drop k = r → l.length < m →
    (∀ x, x ∈ l → ∀ y, c 23 (tt2 x y) = some (bb (decide (x = y)))) → W7x1 c L m a b (k : Int) = some (bb (decide (l = r))) := by
 intro l;induction l with
 | nil =>
  intro r k m h1 h2 h3 _;obtain ⟨m, rfl⟩ : ∃ m', m = m' + 1 := ⟨m - 1, by simp at h3; omega⟩
  have e1 := bE h1;have e2 : r = [] := by rw [← h2]; exact List.drop_eq_nil_of_le (by omega)
  have e3 : decide ((k : Int) < (a.length : Int)) = false := by simp; omega
  rw [W7x1, B7x1, e3, e2];simp only [aJ, decide_true]; rfl
 | cons x l ih =>
  intro r k m h1 h2 h3 hc;obtain ⟨m, rfl⟩ : ∃ m', m = m' + 1 := ⟨m - 1, by simp at h3; omega⟩
  obtain ⟨a1, a2, a3⟩ := bD h1;cases r with
  | nil => have := bE h2; omega
  | cons y r =>
   obtain ⟨b1, b2, b3⟩ := bD h2;have e3 : decide ((k : Int) < (a.length : Int)) = true := by simp; omega
   have hxy : c 23 [yR 3 x, yR 3 y] = some [yB (decide (x = y))] := hc x (mhE ..) y;rw [W7x1, B7x1, e3, aW, aM, aM, a1, b1, eR, eR, hxy, fE, dQ (by omega)]
   by_cases e : x = y
   ·subst e;simp only [decide_true, bnT, aJ];rw [ih r (k + 1) m a3 b3 (by simp at h3; omega) fun z hz => hc z (mtE _ hz)]
    simp
   ·simp only [e, decide_false, Bool.not_false, aW];simp [e, bb]
theorem aGz {a b : List G.T} {L n : Nat} (hw : cP a < 1000000000) (hL : cP a < L) (hn : cP a < n) : CTp L n 7 (ll2 a b) = some (bb (decide (a = b))) := by
 have hlen := fA a;obtain ⟨n, rfl⟩ : ∃ n', n = n' + 1 := ⟨n - 1, by omega⟩
 show CTp L (n + 1) 7 [yS 3 _, yS 3 _] = _;rw [c7];simp only [F7, B7x0];by_cases e6 : (a.length : Int) = (b.length : Int)
 ·simp only [e6, decide_true, bnT, aJ];exact aGA (c := CTp L n) (L := L) (by omega) (by omega) a b 0 L rfl rfl (by omega) fun x hx y => EqT_ok x (by have := dY hx; simp only [wfT]; omega) y L n (by have := dY hx; omega) (by have := dY hx; omega)
 ·have e7 : ¬ a = b := fun h => e6 (by rw [h])
  simp [e6, e7, cnd, bb]
end Go.TV
namespace Go.TV
open Go.AI Go.PI Go.Proofs
set_option maxRecDepth 20000
theorem awk27_ok (L n : Nat) : CTp L (n + 1) 1 [] = some [⟨.bool, true⟩] :=
 call_o (x := ii1) (T := tpI) (y := .t) (by kernel_rfl) (by kernel_rfl) (by kernel_rfl) L n [] (by kernel_rfl)
def same2 (a b : List G.T) : TVs := [⟨.sl (.rc 3), a⟩, ⟨.sl (.rc 3), b⟩]
theorem aD6 {c : TC0} {L : Nat} {E : List G.E} {cl : List G.T} {i : Int} {s s2 : G.Z} {t : G.T} {l r : List G.T}
    (h1 : c 4 [⟨.sl (.rc 3), cl⟩, ⟨.int .i64, i⟩] = some [⟨.sl (.rc 3), l⟩]) (h2 : c 6 [⟨.sl (.rc 3), cl⟩, ⟨.int .i64, i⟩] = some [⟨.sl (.rc 3), l⟩])
    (h3 : c 5 [⟨.sl (.rc 15), E⟩, ⟨.int .i64, (2 : Int)⟩, ⟨.rc 0, s⟩] = some [⟨.rc 3, t⟩, ⟨.rc 0, s2⟩])
    (h4 : c 7 (same2 l l) = some [⟨.bool, true⟩]) (h5 : c 8 [⟨.sl (.rc 3), l⟩, ⟨.rc 3, t⟩] = some [⟨.sl (.rc 3), r⟩]) (h6 : c 9 [⟨.sl (.rc 3), l⟩, ⟨.rc 3, t⟩] = some [⟨.sl (.rc 3), r⟩])
    (h7 : c 10 (same2 r r) = some [⟨.bool, true⟩]) : J0x2 c L E cl i s = some [⟨.bool, true⟩] := by
 simp only [same2] at h4 h7;rw [J0x2, B0x2, h1, rA];simp only [];rw [h3, kF];simp only [];rw [h2, rA];simp only [];rw [h4, fE];simp only [aW];rw [h5, rA];simp only [];rw [h6, rA];simp only [];rw [h7, fE];rfl
theorem row15_of {c : TC0} {L : Nat} {a : List Int} {i : Int} (h1 : c 1 [] = some [⟨.bool, true⟩]) (hw : a.length ≤ 100 → ∃ (E : List G.E) (cl : List G.T) (s : G.Z), c 2 [⟨.int .u32, (0 : Int)⟩] = some [⟨.sl (.rc 15), (E : List G.E)⟩] ∧
    c 3 [⟨.sl (.rc 15), E⟩, ⟨.int .i64, (6 : Int)⟩, ⟨.int .i64, (2 : Int)⟩, ⟨.rc 0, (⟨a, 0⟩ : G.Z)⟩] = some [⟨.sl (.rc 3), (cl : List G.T)⟩, ⟨.rc 0, (s : G.Z)⟩] ∧
    ∀ i : Int, J0x2 c L E cl i s = some [⟨.bool, true⟩]) : F0 c L a i = some [⟨.bool, true⟩] := by
 rw [F0, B0x0, h1, fE];simp only [bnT, aJ];cases e : decide ((100 : Int) < (a.length : Int)) with
 | true => rfl
 | false =>
  simp only [dfN] at e;obtain ⟨E, cl, s, k1, k2, k3⟩ := hw (by omega)
  rw [aJ, k1, obL_en];simp only [];rw [k2, obL_cs];have k4 : ∀ b : Bool, J0x1 c L b E cl i s = some [⟨.bool, true⟩] := fun b => by
   rw [J0x1, B0x1];cases b with
   | true => rw [aW]; exact k3 _
   | false => rw [aJ]; exact k3 _
  simp only [k4];cases decide ((8 : Int) < i) <;> rfl
theorem row15_tv (a : List Int) (ha : ∀ x ∈ a, 0 ≤ x ∧ x < 256) (i : Int) (L M : Nat) : CTp (L + 207000) (M + 200001) 0 [⟨.sl (.int .u8), a⟩, ⟨.int .i64, i⟩] = some [⟨.bool, true⟩] := by
 have e : L + 207000 = L + 200000 + 7000 := by omega
 rw [show M + 200001 = M + 200000 + 1 by omega, c0, e]
 generalize hl : L + 200000 = L1;refine row15_of ?_ fun h80 => ?_
 ·exact awk27_ok (L1 + 7000) (M + 199999)
 ·obtain ⟨E, h2, h3⟩ := world_ok L1 (M + 199841);obtain ⟨cl, s, h4, h5, h6⟩ := c6_n L1 (smF_ok h3) (n := M + 200000) (by omega) (by omega) ⟨a, 0⟩ ⟨ha, Int.le_refl _, by show (0 : Int) ≤ (a.length : Int); omega, h80⟩
  refine ⟨E, cl, s, h2, h4, fun i => ?_⟩
  obtain ⟨t, s2, h7, h8, _⟩ := li_n L1 (smF_ok h3) (n := M + 200000) (by omega) s h6
  have hlen := fA cl;have s1 := asm_sz i cl 0;have s3 := uP (cnc [] (asm i 0 cl)) t;have s4 := cnc_sz (asm i 0 cl) [];simp only [cP] at s4;have k1 := AsmP_ok (a := cl) (i := i) (L := L1 + 7000) (n := M + 199996) (by omega) (by omega)
  have k2 := AsmR_ok (a := cl) (i := i) (L := L1 + 7000) (n := M + 199996) (by omega) (by omega)
  generalize asm i 0 cl = l at *;have k3 := CncP_ok (a := l) (t := t) (L := L1 + 7000) (n := M + 200000) (by omega) (by omega) (by omega)
  have k4 := CncR_ok (a := l) (t := t) (L := L1 + 7000) (n := M + 200000) (by omega) (by omega) (by omega)
  generalize yD (cnc [] l) t = r at *;have k5 : CTp (L1 + 7000) (M + 200000) 7 (ll2 l l) = some (bb (decide (l = l))) := aGz (by omega) (by omega) (by omega)
  have k6 : CTp (L1 + 7000) (M + 199999) 7 (ll2 r r) = some (bb (decide (r = r))) := aGz (by omega) (by omega) (by omega)
  rw [decide_eq_true rfl] at k5 k6;refine aD6 k1 k2 h7 k5 k3 k4 ?_;have k7 : CTp (L1 + 7000) (M + 199999) 7 [⟨.sl (.rc 3), r⟩, ⟨.sl (.rc 3), r⟩] = some [⟨.bool, true⟩] := k6;rw [same2, show M + 200000 = M + 199999 + 1 by omega, c10, F10, B10x0, k7, fE]
end Go.TV
namespace Go.TV
open Go.AI Go.PI Go.Proofs
set_option maxRecDepth 20000
def u8V (cs : List Int) : List Value := cs.map fun x => .int .u8 x
def u8P (cs : List Int) : PV := cU 1 (cs.map fun x => .v (.int .u8 x))
def p00 : PSt := ⟨.nil, 0, [], []⟩
def nu0 : Nu := fun _ => none
def ga0 : Ga := fun _ => none
theorem mem0 {cs : List Value} : Mem nu0 ga0 p00 (st1 3 cs 1) where
 le := fun id x h => by cases h
 lt := fun id a h => by cases h
 inj := fun i j a h => by cases h
 live := fun id a h => by cases h
 get := fun id o h => by
  unfold PSt.get at h;rw [show Nat.blt id p00.next = false from rfl] at h
  cases h
 free := fun a ha => by
  have h4 : 4 ≤ a := ha;rw [mP, if_neg (by omega)]
 ver := fun g => by
  show (Tr.get Tr.nil g).getD 0 = 0;rw [Tr.get_nil]; rfl
theorem aE7 : ∀ cs : List Int, eE (cs.map fun x => PV.v (.int .u8 x)) = cs.map fun x => PV.v (.int .u8 x)
 | [] => rfl
 | x :: l => by
  have ih := aE7 l;simp only [eE] at ih ⊢;rw [mpC, fmC, ih]; rfl
theorem arg_of {W : World} {v : Value} {cs : List Int} (hv : (v = .slice none 0 0 ∧ cs.length = 0) ∨ ∃ a cap, v = .slice (some a) cs.length cap ∧ cs.length ≤ cap ∧ (0 < cs.length → ∃ b off C t fr, a = ⟨b, off, none⟩ ∧ W.heap[b]? = some (Obj.cells C t fr) ∧ ∀ (i : Nat) (x : Value), (u8V cs)[i]? = some x → C[off + i]? = some x)) :
    ∃ (p : Option AI.Place) (u : Value), (∀ q, p = some q → RowW W q (u8V cs) 1) ∧ R nu0 (st1 3 (u8V cs) 1) (u8P cs) u ∧ AI.VR (mu1 3 p) u v := by
 rcases hv with ⟨rfl, h0⟩ | ⟨a, cap, rfl, hc, hrow⟩
 ·have : cs = [] := List.length_eq_zero_iff.1 h0;subst this;exact ⟨none, .slice none 0 0, fun q hq => (by cases hq), .emp0, .same _ rfl⟩
 ·by_cases hn : 0 < cs.length
  ·obtain ⟨b, off, C, t, fr, rfl, h1, h2⟩ := hrow hn;refine ⟨some ⟨b, off, off + cap * 1, 1⟩, .slice (some ⟨3, 0, none⟩) cs.length (cs.length + 1), ?_, ?_, ?_⟩
   ·intro q hq; cases hq;refine ⟨⟨C, t, fr, h1, h2⟩, ?_, rfl⟩;intro x hx;obtain ⟨k, _, rfl⟩ := List.mem_map.1 hx;rfl
   ·have hne : u8P cs = .sl 1 (cs.map fun x => .v (.int .u8 x)) := by
     cases cs with
     | nil => simp at hn
     | cons x l => rfl
    rw [hne];have hl : cs.length = (cs.map fun x => PV.v (.int .u8 x)).length := by simp
    have hfl := aE7 cs;rw [hl];refine R.sl 1 _ 3 0 _ (u8V cs) (rdM 1) (nlR _) (fun e he => ?_) ⟨?_, fun k hk => by cases hk⟩ rfl ?_ (fun i x u hx hu => ?_)
    ·obtain ⟨k, _, rfl⟩ := List.mem_map.1 he;exact ⟨rfl, rfl⟩
    ·exact PI.row_of_get (by rw [mP, if_pos rfl]) rfl
    ·simp [u8V]
    ·rw [hfl, List.getElem?_map, mjE] at hx;obtain ⟨k, hk, rfl⟩ := hx;rw [Nat.zero_add, u8V, List.getElem?_map, hk] at hu;cases hu;exact .v _ rfl
   ·exact .slc 3 0 cs.length (cs.length + 1) cap ⟨b, off, off + cap * 1, 1⟩ rfl (fun e => by omega) hc (by simp)
  ·have : cs = [] := List.length_eq_zero_iff.1 (by omega)
   subst this;exact ⟨none, .slice (some ⟨0, 0, some 0⟩) 0 0, fun q hq => (by cases hq), .emp2 0 0 0 0, .emp a 0 cap (fun h => by cases h)⟩
theorem law_pi {cs : List Int} {i : Int} (hb : ∀ x ∈ cs, 0 ≤ x ∧ x < 256) : ∃ own p', jK Tryz.prog orcI (zJ Go.Rf.cdQ insL) 207000 200001 5 [(u8P cs, false), (.v (.int .i64 i), false)] p00 = some (.v (.bool true), own, p') := by
 have h0 := row15_tv cs hb i 0 0;have hT := callT_ok (U := U0) (T := tpI) (P := Tryz.prog) recOK (ttOK orcI (sigL insL)) (G := tabL Go.Rf.cdQ insL) (GP := zJ Go.Rf.cdQ insL) (fun i s code rs h1 h2 => tabL_ok ka_ok i s code rs h1 h2) 207000 200001
 have hsig : tpI.sig 0 = some ii0.sig := (by kernel_rfl : sigL insL 0 = some ii0.sig)
 have hvr : VR U0 (.sl (.int .u8)) cs (u8P cs) := yH (U := U0) (.int .u8) cs rfl rfl;obtain ⟨pv, own, p', h1, h2⟩ := hT 0 ii0.sig _ _ hsig h0 p00 (fun _ => none) [(u8P cs, false), (.v (.int .i64 i), false)] [(0, (.val ⟨.sl (.int .u8), cs⟩, [])), (1, (.val ⟨.int .i64, i⟩, []))] ⟨[], []⟩ {
  start := rfl
  len := rfl
  args := fun i y hy => by
   match i, hy with
   | 0, hy => cases hy; exact ⟨hvr, aE _ _⟩
   | 1, hy => cases hy; exact ⟨dV (U := U0) .i64 _, aE _ _⟩
   | i + 2, hy => cases hy
  bx := fun j b h => by cases h
  dom := fun _ _ => rfl
  lt := fun j e id h => by cases h
  inj := fun k k' e e' id h => by cases h
  wr := fun id h => by cases h }
 have hpv : pv = .v (.bool true) := of_bool h2.res.1;subst hpv;exact ⟨own, p', h1⟩
theorem aEU {W : World} {v : Value} {cs : List Int} {n : Int} (hb : ∀ x ∈ cs, 0 ≤ x ∧ x < 256) (ht : Lib.TabIs Tryz.prog W pwN .u64 Lib.pow10Tab) (hz : 3 ≤ W.heap.size)
    (hv : (v = .slice none 0 0 ∧ cs.length = 0) ∨ ∃ a cap, v = .slice (some a) cs.length cap ∧ cs.length ≤ cap ∧ (0 < cs.length → ∃ b off C t fr, a = ⟨b, off, none⟩ ∧ W.heap[b]? = some (Obj.cells C t fr) ∧ ∀ (i : Nat) (x : Value), (u8V cs)[i]? = some x → C[off + i]? = some x)) :
    Calls Tryz.prog 5 #[v, .int .i64 n] W fun e w' => e = .returned (.bool true) ∧ Kept W w' := by
 obtain ⟨p, u, hp, hr, hvr⟩ := arg_of hv;obtain ⟨own, p', hpi⟩ := law_pi (i := n) hb;have hG : aGy Tryz.prog Go.Rf.cdQ (zJ Go.Rf.cdQ insL) := aEm aEX kb_ok;obtain ⟨u', σ', ν', γ', h1, h2, _⟩ := aFY (O := orcI) hG 207000 200001 _ _ _ _ _ _ hpi nu0 ga0 (st1 3 (u8V cs) 1) #[u, .int .i64 n] mem0 ⟨rfl, fun i x w hx hw => by
  match i, hx, hw with
  | 0, hx, hw => cases hx; cases hw; exact hr
  | 1, hx, hw => cases hx; cases hw; exact .v _ rfl
  | i + 2, hx, hw => cases hx⟩ (fun i x w hx _ => by
  match i, hx with
  | 0, hx => cases hx
  | 1, hx => cases hx
  | i + 2, hx => cases hx)
 have hu : u' = .bool true := by cases h2; rfl
 subst hu;obtain ⟨_, hc⟩ := aB8 kf_all (fun w0 _ => Go.Rf.code_okQ aEX w0) (orc_ok ht hz) 207000 200001 (W0.of W) rfl _ #[u, .int .i64 n] #[v, .int .i64 n] _ _ W (mu1 3 p) _ h1 (sim1 (by omega) hp (fun h => by omega) hz) ⟨rfl, fun i x w hx hw => by
  match i, hx, hw with
  | 0, hx, hw => cases hx; cases hw; exact hvr
  | 1, hx, hw => cases hx; cases hw; exact .same _ rfl
  | i + 2, hx, hw => cases hx⟩
 refine hc.mono ?_;rintro e w' ⟨μ', r', rfl, hr', hZ, _, _⟩;have : r' = .bool true := by cases hr'; rfl
 subst this;exact ⟨rfl, hZ.kept.toKept⟩
end Go.TV
