import Derived.Test.YtkglmoobpigohaaGreatDoorKv
import Derived.Test.YtkglmoobpigohaaGreatDoorKu
import Derived.Test.YtkglmoobpigohaaGreatDoorKs
import Derived.Test.YtkglmoobpigohaaGreatDoorKt
import Derived.Test.YtkglmoobpigohaaGreatDoorKq
set_option linter.unusedVariables false
set_option linter.unusedSimpArgs false
set_option linter.constructorNameAsVariable false
namespace Go.TV
open Go.AI Go.PI Go.Proofs
def blI (x : Int) : Bool := decide (x = 32) || decide (x = 9) || decide (x = 10) || decide (x = 13)
def csI (x : Int) : Bool := decide (33 ≤ x) && decide (x ≤ 126) && !decide (x = 40) && !decide (x = 41) && !decide (x = 39) && !decide (x = 34) && !decide (x = 59) && !decide (x = 124) && !decide (x = 58)
def u8 (x : UInt8) : Int := (x.toNat : Int)
theorem Bl_ok (x : Int) (L n : Nat) : CTp L (n + 1) 124 [⟨.int .u8, x⟩] = some [yB (blI x)] := by
 rw [c124]
 simp only [F124, aHS, aHv, aHR, blI]
 generalize decide (x = 32) = a, decide (x = 9) = b, decide (x = 10) = d, decide (x = 13) = e
 cases a <;> cases b <;> cases d <;> cases e <;> rfl
theorem Cs_ok (x : Int) (L n : Nat) : CTp L (n + 1) 128 [⟨.int .u8, x⟩] = some [yB (csI x)] := by
 rw [c128]
 simp only [F128, aHN, aHt, aHM, csI]
 generalize decide (33 ≤ x) = a, decide (x ≤ 126) = b, decide (x = 40) = d, decide (x = 41) = e, decide (x = 39) = f, decide (x = 34) = g, decide (x = 59) = h, decide (x = 124) = i, decide (x = 58) = j
 cases a
 ·rfl
 cases b
 ·rfl
 cases d
 case true => rfl
 cases e
 case true => rfl
 cases f
 case true => rfl
 cases g
 case true => rfl
 cases h
 case true => rfl
 cases i
 case true => rfl
 cases j <;> rfl
theorem has_no {s : List UInt8} {k : Nat} {a b : Int} (hb : s.length < 1000000000) (hk : k ≤ s.length) (h : ∀ x, s[k]? = some x → u8 x ≠ a) (L n : Nat) : CTp L (n + 1) 125 [yT s, yI (k : Int), ⟨.int .u8, a⟩, ⟨.int .u8, b⟩] = some [yB false] := by
 rw [c125]
 have e0 : decide ((0 : Int) ≤ (k : Int)) = true := by simp
 simp only [F125, aHQ, aHu, aHP, e0, aM]
 cases h1 : decide (IntKind.i64.wrap ((k : Int) + 1) < (s.length : Int)) with
 | false => rfl
 | true =>
  rw [aM, aJ]
  cases h2 : s[k]? with
  | none =>
   exfalso
   have := List.getElem?_eq_none_iff.1 h2
   simp only [djE] at h1
   rw [bO (by omega)] at h1
   omega
  | some x =>
   have := h x h2
   have e1 : decide ((x.toNat : Int) = a) = false := by simpa [u8] using this
   rw [cO, e1]; rfl
theorem Wd_loop {c : TC0} {L : Nat} {s r : List UInt8} (hc : ∀ x, c 128 [⟨.int .u8, x⟩] = some [yB (csI x)]) (hb : s.length < 1000000000) (hr : ∀ y, r.head? = some y → csI (u8 y) = false) :
    ∀ (w : List UInt8) (k m : Nat), s.drop k = w ++ r → w.length < m → (∀ x ∈ w, csI (u8 x) = true) → pO c L m s (k : Int) = some [yI ((k + w.length : Nat) : Int)] := by
 intro w
 induction w with
 | nil =>
  intro k m h1 h2 _
  obtain ⟨m, rfl⟩ : ∃ m', m = m' + 1 := ⟨m - 1, by simp at h2; omega⟩
  rw [pO, aCY]
  rw [nlA] at h1
  cases r with
  | nil =>
   have e1 := aK h1
   have e3 : decide ((k : Int) < (s.length : Int)) = false := by simp; omega
   rw [e3, aE, yD, yE, aE]; rfl
  | cons y r =>
   obtain ⟨a1, a2, a3⟩ := aL h1
   have e3 : decide ((k : Int) < (s.length : Int)) = true := by simp; omega
   have e4 : csI (y.toNat : Int) = false := hr y rfl
   rw [e3, aM, aJ, a1, cO, hc, bN, yD, yE, e4, aE]; rfl
 | cons x w ih =>
  intro k m h1 h2 h3
  obtain ⟨m, rfl⟩ : ∃ m', m = m' + 1 := ⟨m - 1, by simp at h2; omega⟩
  rw [pO, aCY]
  obtain ⟨a1, a2, a3⟩ := aL h1
  have e3 : decide ((k : Int) < (s.length : Int)) = true := by simp; omega
  have e4 : csI (x.toNat : Int) = true := h3 x (mhE ..)
  rw [e3, aM, aJ, a1, cO, hc, bN, yD, yE, e4, aM, bO (by omega)]
  rw [ih (k + 1) m a3 (by simp at h2; omega) fun z hz => h3 z (mtE _ hz)]
  simp only [lcS]; congr 4; omega
theorem Wd_ok {s w r : List UInt8} {k L n : Nat} (hb : s.length < 1000000000) (hL : s.length < L) (h : s.drop k = w ++ r) (hw : ∀ x ∈ w, csI (u8 x) = true) (hr : ∀ y, r.head? = some y → csI (u8 y) = false) :
    CTp L (n + 2) 129 [yT s, yI (k : Int)] = some [yI ((k + w.length : Nat) : Int)] := by
 have := congrArg List.length h
 simp at this
 show CTp L (n + 1 + 1) 129 _ = _
 rw [c129, F129, aHL]
 exact Wd_loop (fun x => Cs_ok x L n) hb hr w k L h (by omega) hw
theorem Sk_loop {c : TC0} {L : Nat} {s r : List UInt8} (hc : ∀ x, c 124 [⟨.int .u8, x⟩] = some [yB (blI x)])
    (hh : ∀ k : Nat, k ≤ s.length → (∀ x, s[k]? = some x → u8 x ≠ 35) → c 125 [yT s, yI (k : Int), ⟨.int .u8, (35 : Int)⟩, ⟨.int .u8, (124 : Int)⟩] = some [yB false])
    (hb : s.length < 1000000000) (hr : ∀ y, r.head? = some y → blI (u8 y) = false ∧ u8 y ≠ 59 ∧ u8 y ≠ 35) :
    ∀ (w : List UInt8) (k m : Nat), s.drop k = w ++ r → w.length < m → (∀ x ∈ w, blI (u8 x) = true) → lN c L m s (k : Int) = some [yI ((k + w.length : Nat) : Int), yB true] := by
 intro w
 induction w with
 | nil =>
  intro k m h1 h2 _
  obtain ⟨m, rfl⟩ : ∃ m', m = m' + 1 := ⟨m - 1, by simp at h2; omega⟩
  rw [lN, aC0]
  rw [nlA] at h1
  cases r with
  | nil =>
   have e1 := aK h1
   have e3 : decide ((k : Int) < (s.length : Int)) = false := by simp; omega
   rw [e3, aE]; rfl
  | cons y r =>
   obtain ⟨a1, a2, a3⟩ := aL h1
   have e3 : decide ((k : Int) < (s.length : Int)) = true := by simp; omega
   obtain ⟨e4, e5, e6⟩ := hr y rfl
   have e4 : blI (y.toNat : Int) = false := e4
   have e7 : decide ((y.toNat : Int) = 59) = false := by simpa [u8] using e5
   have h8 := hh k (by omega) fun x hx => by rw [a1] at hx; cases hx; exact e6
   rw [e3, aM, aJ, a1, cO, hc, bN, e4, aE, cO, e7, aE, h8, bN, aE]; rfl
 | cons x w ih =>
  intro k m h1 h2 h3
  obtain ⟨m, rfl⟩ : ∃ m', m = m' + 1 := ⟨m - 1, by simp at h2; omega⟩
  rw [lN, aC0]
  obtain ⟨a1, a2, a3⟩ := aL h1
  have e3 : decide ((k : Int) < (s.length : Int)) = true := by simp; omega
  have e4 : blI (x.toNat : Int) = true := h3 x (mhE ..)
  rw [e3, aM, aJ, a1, cO, hc, bN, e4, aM, bO (by omega)]
  rw [ih (k + 1) m a3 (by simp at h2; omega) fun z hz => h3 z (mtE _ hz)]
  simp only [lcS]; congr 4; omega
theorem Sk_ok {s w r : List UInt8} {k L n : Nat} (hb : s.length < 1000000000) (hL : s.length < L) (h : s.drop k = w ++ r) (hw : ∀ x ∈ w, blI (u8 x) = true) (hr : ∀ y, r.head? = some y → blI (u8 y) = false ∧ u8 y ≠ 59 ∧ u8 y ≠ 35) :
    CTp L (n + 2) 100 [yT s, yI (k : Int)] = some [yI ((k + w.length : Nat) : Int), yB true] := by
 have := congrArg List.length h
 simp at this
 show CTp L (n + 1 + 1) 100 _ = _
 rw [c100, F100, aHV]
 exact Sk_loop (fun x => Bl_ok x L n) (fun k h6 hk => has_no hb h6 hk L n) hb hr w k L h (by omega) hw
end Go.TV
namespace Go.TV
open Go.AI Go.PI Go.Proofs
theorem slc_nat {α : Type} {s w r : List α} {k : Nat} (h : s.drop k = w ++ r) (hk : k ≤ s.length) : slc s (k : Int) ((k + w.length : Nat) : Int) = some w := by
 have hl := congrArg List.length h
 simp at hl
 unfold slc
 have e1 : decide ((0 : Int) ≤ (k : Int)) = true := by simp
 have e2 : decide ((k : Int) ≤ ((k + w.length : Nat) : Int)) = true := by simp; omega
 have e3 : decide (((k + w.length : Nat) : Int) ≤ (s.length : Int)) = true := by simp only [djE]; omega
 rw [e1, e2, e3]
 simp only [Bool.and_self, cdt, Int.toNat_natCast, ojE]
 rw [List.drop_take, h]
 simp
theorem obL_nm {β : Type} {a b : List UInt8} {d : Bool} {K : List UInt8 × List UInt8 × Bool × Unit → Option β} : obL (D := U0.D) [.str, .str, .bool] (some [yT a, yT b, yB d]) K = K (a, b, d, ()) := rfl
theorem obL_se {β : Type} {a : G.X} {K : G.X × Unit → Option β} : obL (D := U0.D) [.rc 17] (some [yR 17 a]) K = K (a, ()) := rfl
theorem aBQ {β : Type} {a : Int} {b : Bool} {K : Int × Bool × Unit → Option β} : obL (D := U0.D) [.int .i64, .bool] (some [yI a, yB b]) K = K (a, b, ()) := rfl
theorem obL_i {β : Type} {a : Int} {K : Int × Unit → Option β} : obL (D := U0.D) [.int .i64] (some [yI a]) K = K (a, ()) := rfl
theorem obL_s {β : Type} {a : List UInt8} {K : List UInt8 × Unit → Option β} : obL (D := U0.D) [.str] (some [yT a]) K = K (a, ()) := rfl
theorem obL_s2 {β : Type} {a b : List UInt8} {K : List UInt8 × List UInt8 × Unit → Option β} : obL (D := U0.D) [.str, .str] (some [yT a, yT b]) K = K (a, b, ()) := rfl
theorem obL_on {β : Type} {a : G.K} {b : Int} {d : G.X} {K : G.K × Int × G.X × Unit → Option β} : obL (D := U0.D) [.rc 19, .int .i64, .rc 17] (some [yR 19 a, yI b, yR 17 d]) K = K (a, b, d, ()) := rfl
theorem Nm_no {x : UInt8} {w : List UInt8} (h1 : u8 x ≠ 45) (h2 : u8 x < 48 ∨ 57 < u8 x) (L n : Nat) : CTp (L + 1) (n + 1) 131 [yT (x :: w)] = some [yT [], yT [], yB false] := by
 rw [c131]
 have e1 : decide ((0 : Int) < ((x :: w).length : Int)) = true := by simp
 have e2 : decide ((x.toNat : Int) = 45) = false := by simpa [u8] using h1
 have e3 : idx (x :: w) (0 : Int) = some x := rfl
 rw [F131, aHK, e1, aM, e3, cO, e2, aHs, aHJ, aE, aHr, aHI, rX, aHH, e1, aM, e3, cO]
 have key : ∀ b : Bool, b = false → aHq (CTp (L + 1) n) (L + 1) (rX (CTp (L + 1) n) (L + 1) L) b 0 (x :: w) 0 = some [yT [], yT [], yB false] := by
  intro b hb; subst hb; rfl
 cases h3 : decide ((48 : Int) ≤ (x.toNat : Int)) with
 | false => exact key _ rfl
 | true =>
  rw [aM, cO]
  have h4 : decide ((x.toNat : Int) ≤ (57 : Int)) = false := by
   simp only [djE] at h3
   simp only [dfN]
   simp only [u8] at h2
   omega
  exact key _ h4
theorem Nd_ok {k p : Int} {w : List UInt8} (h : w.length ≤ 40) (L n : Nat) : CTp L (n + 1) 127 [yR 19 ⟨k, p, [], w, []⟩, yB false] = some [yR 17 ⟨0, 0⟩] := by
 rw [c127]
 have e1 : decide ((40 : Int) < (w.length : Int)) = false := by simp; omega
 simp only [F127, aHO, e1, aE]
 rfl
structure NumW (c : TC0) (w : List UInt8) : Prop where
 a : c 131 [yT w] = some [yT w, yT [49], yB true]
 b : c 132 [yT [49]] = some [yT [49]]
 d : c 132 [yT w] = some [yT w]
 e : c 93 [yT w, yT [49]] = some [yT w, yT [49]]
 f : c 133 [yT w] = some [yI 1]
 g : c 133 [yT [49]] = some [yI 1]
def SyW (w : List UInt8) : Prop := ∃ x l, w = x :: l ∧ u8 x ≠ 45 ∧ (u8 x < 48 ∨ 57 < u8 x) ∧ w ≠ [46] ∧ w.length ≤ 40
theorem aGu {x : Int} (h : csI x = true) : x ≠ 40 ∧ x ≠ 41 ∧ x ≠ 39 ∧ x ≠ 34 ∧ x ≠ 59 ∧ x ≠ 124 ∧ x ≠ 58 := by
 simp only [csI, bjE, Bool.not_eq_true', dfN] at h
 obtain ⟨⟨⟨⟨⟨⟨⟨_, h1⟩, h2⟩, h3⟩, h4⟩, h5⟩, h6⟩, h7⟩ := h
 exact ⟨h1, h2, h3, h4, h5, h6, h7⟩
def wtk (b : Bool) (p : Int) (w : List UInt8) : G.K := bif b then ⟨5, p, [], w, [49]⟩ else ⟨6, p, [], w, []⟩
theorem On_w {s w r : List UInt8} {k L n : Nat} {nu : Bool} (hb : s.length < 1000000000) (hL : s.length < L) (h : s.drop k = w ++ r) (h0 : w ≠ []) (hw : ∀ x ∈ w, csI (u8 x) = true) (hr : ∀ y, r.head? = some y → csI (u8 y) = false ∧ u8 y ≠ 58)
    (hk : (nu = true ∧ NumW (CTp L (n + 2)) w) ∨ (nu = false ∧ SyW w)) :
    CTp L (n + 3) 101 [yT s, yI (k : Int)] = some [yR 19 (wtk nu (k : Int) w), yI ((k + w.length : Nat) : Int), yR 17 ⟨0, 0⟩] := by
 have hl := congrArg List.length h
 simp at hl
 obtain ⟨L, rfl⟩ : ∃ L', L = L' + 1 := ⟨L - 1, by omega⟩
 cases hw0 : w with
 | nil => exact (h0 hw0).elim
 | cons x l =>
  rw [← hw0]
  have hx : x ∈ w := by rw [hw0]; exact mhE ..
  have h1 : s.drop k = x :: (l ++ r) := by rw [h, hw0]; rfl
  obtain ⟨a1, a2, a3⟩ := aL h1
  obtain ⟨q1, q2, q3, q4, q5, q6, q7⟩ := aGu (hw x hx)
  have d1 : decide ((x.toNat : Int) = 40) = false := by simpa [u8] using q1
  have d2 : decide ((x.toNat : Int) = 41) = false := by simpa [u8] using q2
  have d3 : decide ((x.toNat : Int) = 39) = false := by simpa [u8] using q3
  have d4 : decide ((x.toNat : Int) = 34) = false := by simpa [u8] using q4
  have d5 : decide ((x.toNat : Int) = 124) = false := by simpa [u8] using q6
  have d6 : csI (x.toNat : Int) = true := hw x hx
  have hwd := Wd_ok (n := n) hb hL h hw (fun y hy => (hr y hy).1)
  have hsl := slc_nat h (by omega)
  have hhs : CTp (L + 1) (n + 2) 125 [yT s, yI ((k + w.length : Nat) : Int), ⟨.int .u8, (58 : Int)⟩, ⟨.int .u8, (58 : Int)⟩] = some [yB false] := by
   refine has_no hb (by omega) (fun y hy => ?_) (L + 1) (n + 1)
   have : s.drop (k + w.length) = r := by rw [← List.drop_drop, h]; simp
   rw [← List.head?_drop, this] at hy
   exact (hr y hy).2
  show CTp (L + 1) (n + 2 + 1) 101 _ = _
  rw [c101, F101, yF, aJ, a1, cO, d1, aE, d2, aE, d3, aE, d4, aE, d5, aE, Cs_ok, bN, d6]
  simp only [bnT, aE]
  rw [hwd, obL_i]
  show ob (slc s (k : Int) ((k + w.length : Nat) : Int)) _ = _
  rw [hsl, cO, hhs, bN, aE]
  rcases hk with ⟨rfl, hn⟩ | ⟨rfl, x', l', e1, e2, e3, e4, e5⟩
  ·rw [hn.a, obL_nm]
   have e4 : decide (w = ([46] : List UInt8)) = false := by
    cases hd : decide (w = ([46] : List UInt8)) with
    | false => rfl
    | true =>
     exfalso
     simp only [djE] at hd
     have h2 := hn.a
     rw [hd] at h2
     rw [Nm_no (x := 46) (w := []) (by decide) (by decide)] at h2
     cases h2
   rw [e4, aE]
   simp only [aM]
   rw [hn.b, obL_s]
   show cnd (decide (([49] : List UInt8) = [48])) _ _ = _
   rw [show decide (([49] : List UInt8) = [48]) = false by decide, aE, hn.d, obL_s, obL_s]
   show obL (D := U0.D) [.str, .str] (CTp (L + 1) (n + 2) 93 [yT w, yT [49]]) _ = _
   rw [hn.e, obL_s2]
   show obL (D := U0.D) [.int .i64] (CTp (L + 1) (n + 2) 133 [yT w]) _ = _
   rw [hn.f, obL_i]
   show cnd (decide ((100 : Int) < 1)) _ _ = _
   rw [show decide ((100 : Int) < 1) = false by decide, aE]
   show obL (D := U0.D) [.int .i64] (CTp (L + 1) (n + 2) 133 [yT [49]]) _ = _
   rw [hn.g, obL_i]
   rfl
  ·rw [e1, Nm_no e2 e3, ← e1, obL_nm]
   have e6 : decide (w = ([46] : List UInt8)) = false := by simpa using e4
   rw [e6, aE]
   simp only [aE]
   rw [Nd_ok e5, obL_se]
   rfl
theorem On_op {s r : List UInt8} {k L n : Nat} (hb : s.length < 1000000000) (h : s.drop k = 40 :: r) : CTp L (n + 1) 101 [yT s, yI (k : Int)] = some [yR 19 ⟨1, (k : Int), [], [], []⟩, yI ((k + 1 : Nat) : Int), yR 17 ⟨0, 0⟩] := by
 obtain ⟨a1, a2, a3⟩ := aL h
 rw [c101, F101, yF, aJ, a1, cO, bO (by omega)]
 rfl
theorem On_cl {s r : List UInt8} {k L n : Nat} (hb : s.length < 1000000000) (h : s.drop k = 41 :: r) : CTp L (n + 1) 101 [yT s, yI (k : Int)] = some [yR 19 ⟨2, (k : Int), [], [], []⟩, yI ((k + 1 : Nat) : Int), yR 17 ⟨0, 0⟩] := by
 obtain ⟨a1, a2, a3⟩ := aL h
 rw [c101, F101, yF, aJ, a1, cO, bO (by omega)]
 rfl
end Go.TV
namespace Go.TV
open Go.AI Go.PI Go.Proofs
def bt (b : Bool) (t : G.T) : TVs := [yB b, yR 3 t]
theorem OcW_loop {c : TC0} {L : Nat} {s : G.T} {a : List G.T} (hb : a.length < 1000000000) : ∀ (l : List G.T) (k m : Nat), a.drop k = l → l.length < m →
    (∀ x, x ∈ l → c 123 (tt2 x s) = some (bt (!occ s x) s)) → pP c L m (a.length : Int) a (k : Int) s = some (bt (!uF s l) s) := by
 intro l
 induction l with
 | nil =>
  intro k m h1 h3 _
  obtain ⟨m, rfl⟩ : ∃ m', m = m' + 1 := ⟨m - 1, by simp at h3; omega⟩
  have e1 := aK h1
  have e3 : decide ((k : Int) < (a.length : Int)) = false := by simp; omega
  rw [pP, aCZ, e3, aE, uF]; rfl
 | cons x l ih =>
  intro k m h1 h3 hc
  obtain ⟨m, rfl⟩ : ∃ m', m = m' + 1 := ⟨m - 1, by simp at h3; omega⟩
  obtain ⟨a1, a2, a3⟩ := aL h1
  have e3 : decide ((k : Int) < (a.length : Int)) = true := by simp; omega
  have hxy : c 123 [yR 3 x, yR 3 s] = some [yB (!occ s x), yR 3 s] := hc x (mhE ..)
  rw [pP, aCZ, e3, aM, aJ, a1, cO, hxy, aFd, bO (by omega), uF]
  cases occ s x with
  | true => simp [cnd, bt]
  | false =>
   simp only [aE, Bool.not_false, bnT]
   rw [ih (k + 1) m a3 (by simp at h3; omega) fun z hz => hc z (mtE _ hz)]
   simp
theorem OcW_ok (s : G.T) : ∀ (t : G.T), wfT t → ∀ (L n : Nat), tsz t ≤ L → tsz t + 2 ≤ n → CTp L n 123 (tt2 t s) = some (bt (!occ s t) s) := by
 intro t
 induction t using bP with
 | h k nm v l ih =>
  intro hw L n hL hn
  have hw' := hw
  have hL' := hL
  have hn' := hn
  simp only [wfT, tsz] at hw hL hn
  have hlen := cG l
  obtain ⟨n, rfl⟩ : ∃ n', n = n' + 2 := ⟨n - 2, by omega⟩
  have h1 : CTp L (n + 1) 147 [yR 3 ⟨k, nm, v, l⟩, yR 3 s] = some [yB (!decide ((⟨k, nm, v, l⟩ : G.T) = s)), yR 3 s] := by
   by_cases hnn : tsz (⟨k, nm, v, l⟩ : G.T) ≤ n
   ·have h2 : CTp L n 53 [yR 3 ⟨k, nm, v, l⟩, yR 3 s] = some [yB (decide ((⟨k, nm, v, l⟩ : G.T) = s))] := TEq_ok _ hw' s L n hL' hnn
    rw [c147, F147, aHG, h2, bN]
   ·omega
  show CTp L (n + 1 + 1) 123 [yR 3 _, yR 3 _] = _
  rw [c123, F123, aHU, h1, aFd, occ]
  by_cases e : s = ⟨k, nm, v, l⟩
  ·subst e; simp [cnd, bt]
  ·have e' : ¬ (⟨k, nm, v, l⟩ : G.T) = s := fun h => e h.symm
   by_cases e2 : k = 3
   ·subst e2
    simp only [e, e', decide_false, decide_true, Bool.not_false, bnT, aE, aM, G.T.kind, G.T.args, Bool.true_and, Bool.false_or]
    exact OcW_loop (by omega) l 0 L rfl (by omega) fun x hx => ih x hx (by have := aG hx; simp only [wfT]; omega) L (n + 1) (by have := aG hx; omega) (by have := aG hx; omega)
   ·simp [e, e', e2, cnd, bt, aCW, aHT, G.T.kind]
theorem aA6 (s t : G.T) (hw : wfT t) (L n : Nat) (hL : tsz t ≤ L) (hn : tsz t + 3 ≤ n) : CTp L n 98 (tt2 s t) = some (bb (occ s t)) := by
 obtain ⟨n, rfl⟩ : ∃ n', n = n' + 1 := ⟨n - 1, by omega⟩
 show CTp L (n + 1) 98 [yR 3 _, yR 3 _] = _
 have : CTp L n 123 [yR 3 t, yR 3 s] = some [yB (!occ s t), yR 3 s] := OcW_ok s t hw L n hL (by omega)
 rw [c98, F98, B98x0, this, aFd]
 simp [bb]
end Go.TV
namespace Go.TV
open Go.AI Go.PI Go.Proofs
def aFe : List UInt8 := [110, 111, 116]
def eqB : List UInt8 := [101, 113, 117, 97, 108]
def neg (x : G.T) : G.T := match x.args with
 | [p] => if isA x aFe 1 then p else x
 | _ => x
noncomputable def eqb (t y : G.T) : Bool := match y.args with
 | [p, q] => isA y eqB 2 && (occ t p && occ t q)
 | _ => false
noncomputable def aD5 (t x : G.T) : Bool := eqb t (neg x)
noncomputable def twl (t : G.T) : List G.T → Nat → Bool
 | [], k => decide (1 < k)
 | x :: l, k => if aD5 t x then true else twl t l (if occ t x then k + 1 else k)
theorem nR (x : G.T) : aU x.args + 4 ≤ tsz x := by cases x; simp only [G.T.args, tsz]; omega
theorem neg_sz (x : G.T) : tsz (neg x) ≤ tsz x := by
 unfold neg
 split
 ·rename_i p h
  split
  ·have := nR x; rw [h] at this; simp only [aU] at this; omega
  ·exact nlR _
 ·exact nlR _
theorem tE {x : G.T} {s : List UInt8} {k : Nat} (h : isA x s (k : Int) = true) : x.args.length = k := by
 simp only [isA, bjE, djE] at h; omega
theorem aBZ {x : G.T} {s : List UInt8} {k : Int} (h : isA x s k = true) : x.kind = 3 := by
 simp only [isA, bjE, djE] at h; exact h.1.1
theorem len1 {l : List G.T} (h : l.length = 1) : ∃ p, l = [p] := by
 match l, h with
 | [p], _ => exact ⟨p, rfl⟩
theorem len2 {l : List G.T} (h : l.length = 2) : ∃ p q, l = [p, q] := by
 match l, h with
 | [p, q], _ => exact ⟨p, q, rfl⟩
theorem P2 {n1 : Int → List G.T → Int → Int → G.T → Rt} {L n : Nat} {k m c : Int} {a : List G.T} {x t : G.T} :
    J78x2 (CTp L (n + 1)) L n1 k m a c x t = aHl (CTp L (n + 1)) L n1 k m a c (neg x) t := by
 have h : CTp L (n + 1) 99 [yR 3 x, yT aFe, yI (1 : Int)] = some [yB (isA x aFe 1)] := IsP_ok
 simp only [aFe] at h
 rw [J78x2, B78x2, h, bN]
 change cnd (isA x aFe 1) _ _ = _
 cases e : isA x aFe 1 with
 | true =>
  obtain ⟨p, hp⟩ := len1 (tE (k := 1) e)
  have : neg x = p := by unfold neg; rw [hp]; simp [e]
  have hi : idx x.args (0 : Int) = some p := by rw [hp]; rfl
  rw [aM, hi, cO, this]
 | false =>
  have : neg x = x := by unfold neg; split <;> simp [e]
  rw [aE, this]
theorem P3 {n1 : Int → List G.T → Int → Int → G.T → Rt} {L n : Nat} {k m c : Int} {a : List G.T} {y t : G.T} (hw : wfT y) (hL : tsz y ≤ L) (hn : tsz y ≤ n) :
    aHl (CTp L (n + 1)) L n1 k m a c y t = if eqb t y then some (bb true) else n1 m a (IntKind.i64.wrap (k + 1)) c t := by
 have h : CTp L (n + 1) 99 [yR 3 y, yT eqB, yI (2 : Int)] = some [yB (isA y eqB 2)] := IsP_ok
 simp only [eqB] at h
 rw [aHl, B78x3, h, bN]
 change cnd (isA y eqB 2) _ _ = _
 cases e : isA y eqB 2 with
 | true =>
  obtain ⟨p, q, hp⟩ := len2 (tE (k := 2) e)
  have : eqb t y = (occ t p && occ t q) := by unfold eqb; rw [hp]; simp [e]
  have hs := nR y
  rw [hp] at hs
  simp only [aU] at hs
  simp only [wfT] at hw
  have o1 : CTp L (n + 1) 98 [yR 3 t, yR 3 p] = some [yB (occ t p)] := aA6 t p (by simp only [wfT]; omega) L (n + 1) (by omega) (by omega)
  have o2 : CTp L (n + 1) 98 [yR 3 t, yR 3 q] = some [yB (occ t q)] := aA6 t q (by simp only [wfT]; omega) L (n + 1) (by omega) (by omega)
  have hi : idx y.args (0 : Int) = some p := by rw [hp]; rfl
  have hj : idx y.args (1 : Int) = some q := by rw [hp]; rfl
  rw [aM, hi, cO, this, o1, bN]
  cases occ t p with
  | false => simp [cnd, aHk, aHA]
  | true =>
   rw [aM, hj, cO, o2, bN]
   cases occ t q <;> simp [cnd, aHk, aHA, bb]
 | false =>
  have : eqb t y = false := by unfold eqb; split <;> simp [e]
  rw [aE, this]
  simp [cnd, aHk, aHA]
theorem Tw_loop {L n : Nat} {t : G.T} {a : List G.T} (hb : a.length < 1000000000) : ∀ (l : List G.T) (k m c : Nat), a.drop k = l → l.length < m → c ≤ k →
    (∀ x, x ∈ l → wfT x ∧ tsz x ≤ L ∧ tsz x + 2 ≤ n) → aAM (CTp L (n + 1)) L m (a.length : Int) a (k : Int) (c : Int) t = some (bb (twl t l c)) := by
 intro l
 induction l with
 | nil =>
  intro k m c h1 h3 _ _
  obtain ⟨m, rfl⟩ : ∃ m', m = m' + 1 := ⟨m - 1, by simp at h3; omega⟩
  have e1 := aK h1
  have e3 : decide ((k : Int) < (a.length : Int)) = false := by simp; omega
  have e4 : decide ((1 : Int) < (c : Int)) = decide (1 < c) := by
   by_cases h : 1 < c
   ·have : (1 : Int) < c := by omega
    simp [h, this]
   ·have : ¬ (1 : Int) < c := by omega
    simp [h, this]
  rw [aAM, B78x1, e3, aE, twl, e4]; rfl
 | cons x l ih =>
  intro k m c h1 h3 hck hc
  obtain ⟨m, rfl⟩ : ∃ m', m = m' + 1 := ⟨m - 1, by simp at h3; omega⟩
  obtain ⟨a1, a2, a3⟩ := aL h1
  obtain ⟨x1, x2, x3⟩ := hc x (mhE ..)
  have e3 : decide ((k : Int) < (a.length : Int)) = true := by simp; omega
  have hxy : CTp L (n + 1) 98 [yR 3 t, yR 3 x] = some [yB (occ t x)] := aA6 t x x1 L (n + 1) x2 (by omega)
  have hs := neg_sz x
  have hq : wfT (neg x) := by simp only [wfT] at x1 ⊢; omega
  rw [aAM, B78x1, e3, aM, aJ, a1, cO, hxy, bN, twl, bO (by omega)]
  cases occ t x with
  | true =>
   simp only [aM, if_true]
   rw [P2, P3 hq (by omega) (by omega), bO (by omega)]
   change (if aD5 t x then _ else _) = _
   cases aD5 t x with
   | true => rfl
   | false => simpa using ih (k + 1) m (c + 1) a3 (by simp at h3; omega) (by omega) fun z hz => hc z (mtE _ hz)
  | false =>
   simp only [aE]
   rw [P2, P3 hq (by omega) (by omega), bO (by omega)]
   change (if aD5 t x then _ else _) = _
   cases aD5 t x with
   | true => rfl
   | false => simpa using ih (k + 1) m c a3 (by simp at h3; omega) (by omega) fun z hz => hc z (mtE _ hz)
theorem Tw_ok {a : List G.T} {t : G.T} {L n : Nat} (hw : aU a < 1000000000) (hL : aU a < L) (hn : aU a + 4 ≤ n) : CTp L n 78 (lt2 a t) = some (bb (twl t a 0)) := by
 have hlen := cG a
 obtain ⟨n, rfl⟩ : ∃ n', n = n' + 2 := ⟨n - 2, by omega⟩
 show CTp L (n + 1 + 1) 78 [yS 3 _, yR 3 _] = _
 rw [c78]
 exact Tw_loop (by omega) a 0 L 0 rfl (by omega) (by omega) fun x hx => ⟨by have := aG hx; simp only [wfT]; omega, by have := aG hx; omega, by have := aG hx; omega⟩
end Go.TV
namespace Go.TV
open Go.AI Go.PI Go.Proofs
theorem occ'_mem {s : G.T} : ∀ {l : List G.T} {x : G.T}, x ∈ l → occ s x = true → uF s l = true
 | y :: l, x, h, e => by
  rw [uF]
  cases h with
  | head => simp [e]
  | tail _ h => simp [occ'_mem h e]
theorem sX {s y x : G.T} (hk : y.kind = 3) (h : x ∈ y.args) (e : occ s x = true) : occ s y = true := by
 cases y with | mk k nm v l =>
 simp only [G.T.kind] at hk
 subst hk
 have h2 : uF s l = true := occ'_mem h e
 rw [occ, h2]; simp
theorem both_occ {t x : G.T} (h : aD5 t x = true) : occ t x = true := by
 have h1 : occ t (neg x) = true := by
  unfold aD5 eqb at h
  split at h
  ·rename_i p q hp
   simp only [bjE] at h
   exact sX (aBZ h.1) (by rw [hp]; simp) h.2.1
  ·cases h
 unfold neg at h1
 split at h1
 ·rename_i p hp
  split at h1
  ·rename_i e
   exact sX (aBZ e) (by rw [hp]; simp) h1
  ·exact h1
 ·exact h1
theorem R3 {n1 : List G.T → Int → Int → G.T → Rt} {L n : Nat} {k c : Int} {a : List G.T} {y t : G.T} (ht : wfT t) (hw : wfT y) (hL : tsz t + tsz y ≤ L) (hn : tsz t + tsz y ≤ n) :
    aHo (CTp L (n + 2)) L n1 k a c y t = if eqb t y then some (bb true) else n1 a (IntKind.i64.wrap (k + 1)) c t := by
 have h : CTp L (n + 2) 57 [yR 3 y, yT eqB, yI (2 : Int)] = some [yB (isA y eqB 2)] := Is_ok
 simp only [eqB] at h
 rw [aHo, B23x3, h, bN]
 change cnd (isA y eqB 2) _ _ = _
 cases e : isA y eqB 2 with
 | true =>
  obtain ⟨p, q, hp⟩ := len2 (tE (k := 2) e)
  have : eqb t y = (occ t p && occ t q) := by unfold eqb; rw [hp]; simp [e]
  have hs := nR y
  rw [hp] at hs
  simp only [aU] at hs
  simp only [wfT] at hw
  have o1 : CTp L (n + 2) 24 [yR 3 t, yR 3 p] = some [yB (occ t p)] := aCU t ht p (by simp only [wfT]; omega) L (n + 2) (by omega) (by omega)
  have o2 : CTp L (n + 2) 24 [yR 3 t, yR 3 q] = some [yB (occ t q)] := aCU t ht q (by simp only [wfT]; omega) L (n + 2) (by omega) (by omega)
  have hi : idx y.args (0 : Int) = some p := by rw [hp]; rfl
  have hj : idx y.args (1 : Int) = some q := by rw [hp]; rfl
  rw [aM, hi, cO, this, o1, bN]
  cases occ t p with
  | false => simp [cnd, aHn, aHF, aA8, aDR]
  | true =>
   rw [aM, hj, cO, o2, bN]
   cases occ t q <;> simp [cnd, aHn, aHF, aA8, aDR, bb]
 | false =>
  have : eqb t y = false := by unfold eqb; split <;> simp [e]
  rw [aE, this]
  simp [cnd, aHn, aHF, aA8, aDR]
theorem Of_loop {L n : Nat} {t : G.T} {a : List G.T} (ht : wfT t) (hb : a.length < 1000000000) : ∀ (l : List G.T) (k m c : Nat), a.drop k = l → l.length < m → c ≤ k →
    (∀ x, x ∈ l → wfT x ∧ tsz t + tsz x ≤ L ∧ tsz t + tsz x ≤ n) → tY (CTp L (n + 2)) L m a (k : Int) (c : Int) t = some (bb (twl t l c)) := by
 intro l
 induction l with
 | nil =>
  intro k m c h1 h3 _ _
  obtain ⟨m, rfl⟩ : ∃ m', m = m' + 1 := ⟨m - 1, by simp at h3; omega⟩
  have e1 := aK h1
  have e3 : decide ((k : Int) < (a.length : Int)) = false := by simp; omega
  have e4 : decide ((1 : Int) < (c : Int)) = decide (1 < c) := by
   by_cases h : 1 < c
   ·have : (1 : Int) < c := by omega
    simp [h, this]
   ·have : ¬ (1 : Int) < c := by omega
    simp [h, this]
  rw [tY, B23x1, e3, aE, twl, e4]; rfl
 | cons x l ih =>
  intro k m c h1 h3 hck hc
  obtain ⟨m, rfl⟩ : ∃ m', m = m' + 1 := ⟨m - 1, by simp at h3; omega⟩
  obtain ⟨a1, a2, a3⟩ := aL h1
  obtain ⟨x1, x2, x3⟩ := hc x (mhE ..)
  have e3 : decide ((k : Int) < (a.length : Int)) = true := by simp; omega
  have hxy : CTp L (n + 2) 24 [yR 3 t, yR 3 x] = some [yB (occ t x)] := aCU t ht x x1 L (n + 2) x2 (by omega)
  have hs := neg_sz x
  have hq : wfT (neg x) := by simp only [wfT] at x1 ⊢; omega
  have h : CTp L (n + 2) 57 [yR 3 x, yT aFe, yI (1 : Int)] = some [yB (isA x aFe 1)] := Is_ok
  simp only [aFe] at h
  rw [tY, B23x1, e3, aM, aJ, a1, cO, hxy, bN, twl]
  have hbo := @both_occ t x
  cases eo : occ t x with
  | true =>
   simp only [bnT, aE, if_true]
   rw [cO, h, bN]
   change cnd (isA x aFe 1) _ _ = _
   have key : aHo (CTp L (n + 2)) L (tY (CTp L (n + 2)) L m) (k : Int) a (IntKind.i64.wrap ((c : Int) + 1)) (neg x) t = some (bb (if aD5 t x = true then true else twl t l (c + 1))) := by
    rw [R3 ht hq (by omega) (by omega), bO (by omega), bO (by omega)]
    change (if aD5 t x then _ else _) = _
    cases aD5 t x with
    | true => rfl
    | false => simpa using ih (k + 1) m (c + 1) a3 (by simp at h3; omega) (by omega) fun z hz => hc z (mtE _ hz)
   cases e : isA x aFe 1 with
   | true =>
    obtain ⟨p, hp⟩ := len1 (tE (k := 1) e)
    have hne : neg x = p := by unfold neg; rw [hp]; simp [e]
    have hi : idx x.args (0 : Int) = some p := by rw [hp]; rfl
    rw [aM, hi, cO, ← hne]; exact key
   | false =>
    have hne : neg x = x := by unfold neg; split <;> simp [e]
    rw [aE]; rw [hne] at key; exact key
  | false =>
   have hbf : aD5 t x = false := by
    cases hb2 : aD5 t x with
    | false => rfl
    | true => rw [hbo hb2] at eo; cases eo
   simp only [Bool.not_false, aM, hbf, aA8, aDR]
   rw [bO (by omega)]
   simpa using ih (k + 1) m c a3 (by simp at h3; omega) (by omega) fun z hz => hc z (mtE _ hz)
theorem Of_ok {a : List G.T} {t : G.T} {L n : Nat} (ht : wfT t) (hw : aU a < 1000000000) (hL : tsz t + aU a < L) (hn : tsz t + aU a + 3 ≤ n) : CTp L n 23 (lt2 a t) = some (bb (twl t a 0)) := by
 have hlen := cG a
 obtain ⟨n, rfl⟩ : ∃ n', n = n' + 3 := ⟨n - 3, by omega⟩
 show CTp L (n + 2 + 1) 23 [yS 3 _, yR 3 _] = _
 rw [c23]
 exact Of_loop ht (by omega) a 0 L 0 rfl (by omega) (by omega) fun x hx => ⟨by have := aG hx; simp only [wfT]; omega, by have := aG hx; omega, by have := aG hx; omega⟩
end Go.TV
namespace Go.TV
open Go.AI Go.PI Go.Proofs
theorem obL_ls {β : Type} {b : List G.Y} {K : List G.Y × Unit → Option β} : obL (D := U0.D) [.sl (.rc 1)] (some [yS 1 b]) K = K (b, ()) := rfl
def addS (out : List G.Y) (s : G.Y) : List G.Y := if s ∈ out then out else out ++ [s]
def nP : List G.Y → List G.Y → List G.Y
 | out, [] => out
 | out, s :: r => nP (addS out s) r
mutual
def pW : G.T → List G.Y
 | ⟨k, nm, _, l⟩ => if k = 1 then [nm] else if k = 3 then uE [] l else []
def uE (out : List G.Y) : List G.T → List G.Y
 | [] => out
 | x :: l => uE (nP out (pW x)) l
end
def ls1 (a : List G.Y) : TVs := [yS 1 a]
theorem args_app {t : G.T} {L n : Nat} (h : t.kind = 3) : CTp L (n + 1) 58 [yR 3 t] = some (tl1 t.args) := args_ok.trans (by rw [if_pos h])
theorem args_no {t : G.T} {L n : Nat} (h : ¬ t.kind = 3) : CTp L (n + 1) 58 [yR 3 t] = some (tl1 []) := args_ok.trans (by rw [if_neg h])
theorem Am_loop {c : TC0} {L : Nat} {t : G.Y} {a : List G.Y} (hb : a.length < 1000000000) : ∀ (l : List G.Y) (k m : Nat), a.drop k = l → l.length < m →
    aAJ c L m a (k : Int) t = some (bb (decide (t ∈ l))) := by
 intro l
 induction l with
 | nil =>
  intro k m h1 h3
  obtain ⟨m, rfl⟩ : ∃ m', m = m' + 1 := ⟨m - 1, by simp at h3; omega⟩
  have e1 := aK h1
  have e3 : decide ((k : Int) < (a.length : Int)) = false := by simp; omega
  rw [aAJ, B82x1, e3, aE]; simp [bb]
 | cons x l ih =>
  intro k m h1 h3
  obtain ⟨m, rfl⟩ : ∃ m', m = m' + 1 := ⟨m - 1, by simp at h3; omega⟩
  obtain ⟨a1, a2, a3⟩ := aL h1
  have e3 : decide ((k : Int) < (a.length : Int)) = true := by simp; omega
  rw [aAJ, B82x1, e3, aM, aJ, a1, cO, bO (by omega)]
  by_cases e : x = t
  ·subst e; simp [cnd, bb]
  ·have e' : ¬ t = x := fun h => e h.symm
   simp only [e, decide_false, aE]
   rw [ih (k + 1) m a3 (by simp at h3; omega)]
   simp [e']
theorem Am_ok {a : List G.Y} {t : G.Y} {L n : Nat} (hb : a.length < 1000000000) (hL : a.length < L) : CTp L (n + 1) 82 [yS 1 a, yR 1 t] = some [yB (decide (t ∈ a))] := by
 rw [c82]
 exact Am_loop hb a 0 L rfl hL
theorem addS_len (out : List G.Y) (s : G.Y) : (addS out s).length ≤ out.length + 1 := by
 unfold addS; split <;> simp
theorem pN : ∀ (r out : List G.Y), (nP out r).length ≤ out.length + r.length
 | [], out => by simp [nP]
 | s :: r, out => by
  have h1 := pN r (addS out s)
  have h2 := addS_len out s
  simp only [nP, lcS]; omega
theorem varL_len {l : List G.T} (ih : ∀ x ∈ l, (pW x).length ≤ tsz x) : ∀ out, (uE out l).length ≤ out.length + aU l := by
 induction l with
 | nil => intro out; simp [uE, aU]
 | cons x l ih2 =>
  intro out
  simp only [uE, aU]
  have h1 := ih2 (fun y hy => ih y (mtE _ hy)) (nP out (pW x))
  have h2 := ih x (mhE ..)
  have h3 := pN (pW x) out
  omega
theorem varT_len : ∀ (t : G.T), (pW t).length ≤ tsz t := by
 intro t
 induction t using bP with
 | h k n v l ih =>
  simp only [pW, tsz]
  split
  ·simp; omega
  ·split
   ·have := varL_len ih []; simp at this; omega
   ·simp
theorem ble32 {a : Nat} (h : a < 30000000) : Nat.ble ((a + 1) * 32) 1073741824 = true := by
 apply Nat.ble_eq_true_of_le; omega
theorem Va_in {L n : Nat} {n1 : List G.T → Int → List G.Y → Rt} {a : List G.T} {k4 : Int} {p : List G.Y} (hp : p.length < 30000000) : ∀ (l out : List G.Y) (k m : Nat), p.drop k = l → l.length < m → out.length + l.length < 30000000 → out.length + l.length < L →
    xQ (CTp L (n + 1)) L n1 m p (k : Int) k4 a out = n1 a (IntKind.i64.wrap (k4 + 1)) (nP out l) := by
 intro l
 induction l with
 | nil =>
  intro out k m h1 h3 _ _
  obtain ⟨m, rfl⟩ : ∃ m', m = m' + 1 := ⟨m - 1, by simp at h3; omega⟩
  have e1 := aK h1
  have e3 : decide ((k : Int) < (p.length : Int)) = false := by simp; omega
  rw [xQ, B56x3, e3, aE]; rfl
 | cons x l ih =>
  intro out k m h1 h3 h4 h5
  obtain ⟨m, rfl⟩ : ∃ m', m = m' + 1 := ⟨m - 1, by simp at h3; omega⟩
  obtain ⟨a1, a2, a3⟩ := aL h1
  simp only [lcS] at h4 h5
  have e3 : decide ((k : Int) < (p.length : Int)) = true := by simp; omega
  rw [xQ, B56x3, e3, aM, aJ, a1, cO, Am_ok (by omega) (by omega), bN, nP]
  by_cases e : x ∈ out
  ·have ea : addS out x = out := by simp [addS, e]
   simp only [e, decide_true, bnT, aE, J56x4, B56x4]
   rw [bO (by omega), ih out (k + 1) m a3 (by simp at h3; omega) (by omega) (by omega), ea]
  ·have ea : addS out x = out ++ [x] := by simp [addS, e]
   simp only [e, decide_false, Bool.not_false, aM, J56x4, B56x4, cO, lcS, lnN, Nat.zero_add, ble32 (show out.length < 30000000 by omega), nO]
   rw [bO (by omega), ih (out ++ [x]) (k + 1) m a3 (by simp at h3; omega) (by simp; omega) (by simp; omega), ea]
theorem aHb {L n : Nat} {a : List G.T} (hb : a.length < 1000000000) : ∀ (l : List G.T) (out : List G.Y) (k m : Nat), a.drop k = l → l.length < m → out.length + aU l < 30000000 → out.length + aU l < L →
    (∀ x, x ∈ l → x.kind = 3 → CTp L (n + 1) 56 [yS 3 x.args] = some (ls1 (uE [] x.args))) →
    (∀ x, x ∈ l → CTp L (n + 1) 56 [yS 3 ([] : List G.T)] = some (ls1 [])) → qF (CTp L (n + 1)) L m a (k : Int) out = some (ls1 (uE out l)) := by
 intro l
 induction l with
 | nil =>
  intro out k m h1 h3 _ _ _ _
  obtain ⟨m, rfl⟩ : ∃ m', m = m' + 1 := ⟨m - 1, by simp at h3; omega⟩
  have e1 := aK h1
  have e3 : decide ((k : Int) < (a.length : Int)) = false := by simp; omega
  rw [qF, aHC, e3, aE]; rfl
 | cons x l ih =>
  intro out k m h1 h3 h4 h5 hc hz
  obtain ⟨m, rfl⟩ : ∃ m', m = m' + 1 := ⟨m - 1, by simp at h3; omega⟩
  obtain ⟨a1, a2, a3⟩ := aL h1
  simp only [aU] at h4 h5
  have hv := varT_len x
  have e3 : decide ((k : Int) < (a.length : Int)) = true := by simp; omega
  have key : xQ (CTp L (n + 1)) L (qF (CTp L (n + 1)) L m) L (pW x) 0 (k : Int) a out = some (ls1 (uE out (x :: l))) := by
   have h0 := Va_in (L := L) (n := n) (n1 := qF (CTp L (n + 1)) L m) (a := a) (k4 := (k : Int)) (p := pW x) (by omega) (pW x) out 0 L rfl (by omega) (by omega) (by omega)
   refine h0.trans ?_
   have hl := pN (pW x) out
   rw [bO (by omega), uE]
   exact ih (nP out (pW x)) (k + 1) m a3 (by simp at h3; omega) (by omega) (by omega) (fun y hy => hc y (mtE _ hy)) (fun y hy => hz y (mtE _ hy))
  rw [qF, aHC, e3, aM, aJ, a1, cO]
  simp only [cO, J56x2, B56x2]
  cases x with | mk kk nm v al =>
  by_cases e1 : kk = 1
  ·have : pW ⟨kk, nm, v, al⟩ = [nm] := by simp [pW, e1]
   rw [this] at key
   simp only [G.T.kind, G.T.name, e1, decide_true, aM]
   rw [← e1]
   exact key
  ·have h58 : ∃ q : List G.T, CTp L (n + 1) 58 [yR 3 ⟨kk, nm, v, al⟩] = some [yS 3 q] ∧ CTp L (n + 1) 56 [yS 3 q] = some [yS 1 (pW ⟨kk, nm, v, al⟩)] := by
    by_cases e2 : kk = 3
    ·refine ⟨al, args_app (t := ⟨kk, nm, v, al⟩) e2, ?_⟩
     have : pW ⟨kk, nm, v, al⟩ = uE [] al := by simp [pW, e2]
     rw [this]; exact hc ⟨kk, nm, v, al⟩ (mhE ..) e2
    ·refine ⟨[], args_no (t := ⟨kk, nm, v, al⟩) e2, ?_⟩
     have : pW ⟨kk, nm, v, al⟩ = [] := by simp [pW, e1, e2]
     rw [this]; exact hz ⟨kk, nm, v, al⟩ (mhE ..)
   obtain ⟨q, q1, q2⟩ := h58
   have e1' : decide ((G.T.mk kk nm v al).kind = 1) = false := by simp [G.T.kind, e1]
   rw [e1', aE, q1, sY, q2, obL_ls]
   exact key
end Go.TV
namespace Go.TV
open Go.AI Go.PI Go.Proofs
theorem Va_nil {L n : Nat} (hL : 0 < L) : CTp L (n + 1) 56 [yS 3 ([] : List G.T)] = some (ls1 []) := by
 obtain ⟨L, rfl⟩ : ∃ n', L = n' + 1 := ⟨L - 1, by omega⟩
 rw [c56, F56, B56x0, qF, aHC]
 have e3 : decide ((0 : Int) < (([] : List G.T).length : Int)) = false := by simp
 rw [e3, aE]; rfl
theorem VaT_ok : ∀ (t : G.T), tsz t < 30000000 → ∀ (L n : Nat), tsz t < L → tsz t ≤ n → CTp L n 56 [yS 3 t.args] = some (ls1 (uE [] t.args)) := by
 intro t
 induction t using bP with
 | h k nm v l ih =>
  intro hw L n hL hn
  simp only [tsz] at hw hL hn
  have hlen := cG l
  obtain ⟨n, rfl⟩ : ∃ n', n = n' + 2 := ⟨n - 2, by omega⟩
  show CTp L (n + 1 + 1) 56 [yS 3 l] = some (ls1 (uE [] l))
  rw [c56]
  exact aHb (n := n) (by omega) l [] 0 L rfl (by omega) (by simp; omega) (by simp; omega)
   (fun x hx _ => ih x hx (by have := aG hx; omega) L (n + 1) (by have := aG hx; omega) (by have := aG hx; omega))
   (fun x hx => Va_nil (by omega))
theorem VaL_ok (l : List G.T) (hw : aU l < 30000000) (L n : Nat) (hL : aU l < L) (hn : aU l + 2 ≤ n) : CTp L n 56 [yS 3 l] = some (ls1 (uE [] l)) := by
 have hlen := cG l
 obtain ⟨n, rfl⟩ : ∃ n', n = n' + 2 := ⟨n - 2, by omega⟩
 rw [c56]
 exact aHb (n := n) (by omega) l [] 0 L rfl (by omega) (by simp; omega) (by simp; omega)
  (fun x hx _ => VaT_ok x (by have := aG hx; omega) L (n + 1) (by have := aG hx; omega) (by have := aG hx; omega))
  (fun x hx => Va_nil (by omega))
theorem addS_nil {out : List G.Y} {s : G.Y} : addS out s ≠ [] := by
 unfold addS; split
 ·intro h; subst h; rename_i h; cases h
 ·simp
theorem xJ : ∀ {r out : List G.Y}, nP out r = [] ↔ out = [] ∧ r = []
 | [], out => by simp [nP]
 | s :: r, out => by
  rw [nP, xJ]
  constructor
  ·intro h; exact absurd h.1 addS_nil
  ·intro h; cases h.2
theorem aBf {l : List G.T} (ih : ∀ x ∈ l, (pW x = [] ↔ gnd x = true)) : ∀ out, (uE out l = [] ↔ out = [] ∧ gnd' l = true) := by
 induction l with
 | nil => intro out; simp [uE, gnd']
 | cons x l ih2 =>
  intro out
  rw [uE, ih2 (fun y hy => ih y (mtE _ hy)), xJ, ih x (mhE ..), gnd']
  simp [and_assoc]
theorem varT_nil : ∀ (t : G.T), (pW t = [] ↔ gnd t = true) := by
 intro t
 induction t using bP with
 | h k n v l ih =>
  rw [pW, gnd]
  by_cases e : k = 1
  ·simp [e]
  ·by_cases e2 : k = 3
   ·simp [e2, aBf ih]
   ·simp [e, e2]
theorem GndR_ok (t : G.T) (hw : tsz t + 1 < 30000000) (L n : Nat) (hL : tsz t + 1 < L) (hn : tsz t + 4 ≤ n) : CTp L n 22 [yR 3 t] = some (bb (gnd t)) := by
 obtain ⟨n, rfl⟩ : ∃ n', n = n' + 1 := ⟨n - 1, by omega⟩
 have h := VaL_ok [t] (by simp only [aU]; omega) L n (by simp only [aU]; omega) (by simp only [aU]; omega)
 simp only [ls1] at h
 rw [c22, F22, B22x0, h, obL_ls]
 have h1 := aBf (l := [t]) (fun x _ => varT_nil x) []
 simp only [gnd', bnA, true_and] at h1
 cases e : gnd t with
 | true => rw [h1.2 e]; rfl
 | false =>
  have : ¬ uE [] [t] = [] := fun h => by rw [h1.1 h] at e; cases e
  have h2 : decide (((uE [] [t]).length : Int) = 0) = false := by
   simp; exact this
  simp only [bb]; rw [h2]
end Go.TV
namespace Go.TV
open Go.AI Go.PI Go.Proofs
theorem obL_lr {β : Type} {b : List G.R} {K : List G.R × Unit → Option β} : obL (D := U0.D) [.sl (.rc 18)] (some [yS 18 b]) K = K (b, ()) := rfl
def rowsL : List G.R := match B81x0 (fun _ _ => none) with
 | some l => (match dG (D := U0.D) [.sl (.rc 18)] l with | some r => r.1 | none => [])
 | none => []
theorem rows_ok {L n : Nat} : CTp L (n + 1) 81 [] = some [yS 18 rowsL] := by
 rw [c81]; rfl
theorem rows_len : rowsL.length < 1000 := by decide +kernel
def jR (s : List UInt8) : List G.R → Option Int
 | [] => none
 | r :: l => if r.name = s then some r.arity else jR s l
def arity (s : G.Y) : Option Int := if s.package = kB then jR s.name rowsL else none
def oI (o : Option Int) : TVs := match o with
 | some k => [yI k, yB true]
 | none => [yI (0 : Int), yB false]
theorem Ar_loop {c : TC0} {L : Nat} {t : G.Y} {a : List G.R} (hb : a.length < 1000000000) : ∀ (l : List G.R) (k m : Nat), a.drop k = l → l.length < m →
    aAO c L m a (k : Int) t = some (oI (jR t.name l)) := by
 intro l
 induction l with
 | nil =>
  intro k m h1 h3
  obtain ⟨m, rfl⟩ : ∃ m', m = m' + 1 := ⟨m - 1, by simp at h3; omega⟩
  have e1 := aK h1
  have e3 : decide ((k : Int) < (a.length : Int)) = false := by simp; omega
  rw [aAO, B55x1, e3, aE]; rfl
 | cons x l ih =>
  intro k m h1 h3
  obtain ⟨m, rfl⟩ : ∃ m', m = m' + 1 := ⟨m - 1, by simp at h3; omega⟩
  obtain ⟨a1, a2, a3⟩ := aL h1
  have e3 : decide ((k : Int) < (a.length : Int)) = true := by simp; omega
  rw [aAO, B55x1, e3, aM, aJ, a1, cO, bO (by omega), jR]
  by_cases e : x.name = t.name
  ·simp only [e, decide_true, aM, cO, if_true, oI]
  ·simp only [e, decide_false, aE, if_false]
   exact ih (k + 1) m a3 (by simp at h3; omega)
theorem aC1 (s : G.Y) (L n : Nat) (hL : 1000 ≤ L) : CTp L (n + 2) 55 [yR 1 s] = some (oI (arity s)) := by
 have hl := rows_len
 rw [c55, F55, B55x0]
 by_cases e : s.package = kB
 ·have e' : decide (s.package = ([108, 105, 115, 112] : List UInt8)) = true := decide_eq_true e
  have ea : arity s = jR s.name rowsL := by simp [arity, e]
  rw [e', ea, rows_ok, obL_lr]
  exact Ar_loop (a := rowsL) (by omega) rowsL 0 L rfl (by omega)
 ·have e' : decide (s.package = ([108, 105, 115, 112] : List UInt8)) = false := decide_eq_false e
  have ea : arity s = none := by simp [arity, e]
  rw [e', ea]; rfl
end Go.TV
namespace Go.TV
open Go.AI Go.PI Go.Proofs
structure bG (s : G.Z) : Prop where
 b : ∀ x ∈ s.b, 0 ≤ x ∧ x < 256
 p0 : 0 ≤ s.pos
 p1 : s.pos ≤ (s.b.length : Int)
 l : s.b.length ≤ 80
def NxR (x : Rt) (a : Int) : Prop := ∃ (r : Int) (s : G.Z), x = some [yI r, yR 0 s] ∧ 0 ≤ r ∧ r < a ∧ bG s
theorem fG {β : Type} {a : Int} {b : G.Z} {K : Int × G.Z × Unit → Option β} : obL (D := U0.D) [.int .i64, .rc 0] (some [yI a, yR 0 b]) K = K (a, b, ()) := rfl
theorem Nx_ok {s : G.Z} {a : Int} {L n : Nat} (h : bG s) (h1 : 1 ≤ a) : NxR (CTp L (n + 1) 16 [yI a, yR 0 s]) a := by
 rw [c16, F16, B16x0]
 cases e1 : decide ((s.b.length : Int) ≤ s.pos) with
 | true => exact ⟨0, s, rfl, Int.le_refl _, by omega, h⟩
 | false =>
  have e2 : decide (a < (1 : Int)) = false := by simp; omega
  simp only [dfN] at e1
  rw [aE, e2, J16x1, B16x1, aE]
  obtain ⟨k, hk⟩ : ∃ k : Nat, s.pos = (k : Int) := ⟨s.pos.toNat, by have := h.p0; omega⟩
  have hl := h.l
  have hkl : k < s.b.length := by omega
  have e3 : s.b[k]? = some s.b[k] := geG hkl
  obtain ⟨q1, q2⟩ := h.b s.b[k] (List.getElem_mem hkl)
  generalize s.b[k] = v at e3 q1 q2
  have e4 : IntKind.i64.wrap (((k + 1 : Nat) : Int) - 1) = (k : Int) := by
   rw [show ((k + 1 : Nat) : Int) - 1 = (k : Int) by omega]; exact wrapn (by omega)
  obtain ⟨m, rfl⟩ : ∃ m : Nat, v = (m : Int) := ⟨v.toNat, by omega⟩
  rw [hk, bO (by omega), e4, aJ, e3, cO, show decide (a = 0) = false by simp; omega]
  simp only [Bool.not_false, nO]
  rw [wrapn (by omega)]
  exact ⟨_, _, rfl, Int.tmod_nonneg _ q1, Int.tmod_lt_of_pos _ (by omega), ⟨h.b, by show (0 : Int) ≤ ((k + 1 : Nat) : Int); omega, by show ((k + 1 : Nat) : Int) ≤ (s.b.length : Int); omega, h.l⟩⟩
def fns (e : G.E) : List G.F := bif decide (e.kind = 3) || decide (e.kind = 5) || decide (e.kind = 6) || decide (e.kind = 7) then e.functions else []
theorem Fn_ok (e : G.E) (L n : Nat) : CTp L (n + 1) 95 [yR 15 e] = some [yS 4 (fns e)] := by
 rw [c95]
 simp only [F95, B95x0, J95x1, B95x1, fns]
 generalize decide (e.kind = 3) = a, decide (e.kind = 5) = b, decide (e.kind = 6) = d, decide (e.kind = 7) = f
 cases a <;> cases b <;> cases d <;> cases f <;> rfl
def PlR (E : List G.E) (x : Rt) : Prop := ∃ (i k : Int) (b : Bool), x = some [yI i, yI k, yB b] ∧ (b = true → ∃ (i' k' : Nat) (e : G.E), i = i' ∧ k = k' ∧ E[i']? = some e ∧ k' < (fns e).length)
theorem obL_fl {β : Type} {a : List G.F} {K : List G.F × Unit → Option β} : obL (D := U0.D) [.sl (.rc 4)] (some [yS 4 a]) K = K (a, ()) := rfl
theorem Pl_in {E : List G.E} {f : G.Y} {c : TC0} {L : Nat} {n1 : List G.E → Int → G.Y → Rt} {i : Nat} {e : G.E} (he : E[i]? = some e) (hb : (fns e).length < 1000000000) (hn : PlR E (n1 E (IntKind.i64.wrap ((i : Int) + 1)) f)) :
    ∀ (r : List G.F) (k m : Nat), (fns e).drop k = r → r.length < m → PlR E (aAG c L n1 m (fns e) (k : Int) (i : Int) E f) := by
 intro r
 induction r with
 | nil =>
  intro k m h1 h2
  obtain ⟨m, rfl⟩ : ∃ m', m = m' + 1 := ⟨m - 1, by simp at h2; omega⟩
  have e1 := aK h1
  have e3 : decide ((k : Int) < ((fns e).length : Int)) = false := by simp; omega
  rw [aAG, B94x2, e3, aE]; exact hn
 | cons x r ih =>
  intro k m h1 h2
  obtain ⟨m, rfl⟩ : ∃ m', m = m' + 1 := ⟨m - 1, by simp at h2; omega⟩
  obtain ⟨a1, a2, a3⟩ := aL h1
  have e3 : decide ((k : Int) < ((fns e).length : Int)) = true := by simp; omega
  rw [aAG, B94x2, e3, aM, aJ, a1, cO, bO (by omega)]
  cases decide (x.name = f) with
  | true => exact ⟨_, _, true, rfl, fun _ => ⟨i, k, e, rfl, rfl, he, a2⟩⟩
  | false => exact ih (k + 1) m a3 (by simp at h2; omega)
theorem Pl_out {E : List G.E} {f : G.Y} {c : TC0} {L : Nat} (hb : E.length < 1000000) (hf : ∀ e ∈ E, (fns e).length < L ∧ (fns e).length < 1000000) (hc : ∀ e : G.E, c 95 [yR 15 e] = some [yS 4 (fns e)]) :
    ∀ (r : List G.E) (k m : Nat), E.drop k = r → r.length < m → PlR E (aAH c L m E (k : Int) f) := by
 intro r
 induction r with
 | nil =>
  intro k m h1 h2
  obtain ⟨m, rfl⟩ : ∃ m', m = m' + 1 := ⟨m - 1, by simp at h2; omega⟩
  have e1 := aK h1
  have e3 : decide ((k : Int) < (E.length : Int)) = false := by simp; omega
  rw [aAH, B94x1, e3, aE]
  exact ⟨0, 0, false, rfl, fun h => by cases h⟩
 | cons x r ih =>
  intro k m h1 h2
  obtain ⟨m, rfl⟩ : ∃ m', m = m' + 1 := ⟨m - 1, by simp at h2; omega⟩
  obtain ⟨a1, a2, a3⟩ := aL h1
  have e3 : decide ((k : Int) < (E.length : Int)) = true := by simp; omega
  rw [aAH, B94x1, e3, aM, aJ, a1, cO, hc, obL_fl]
  obtain ⟨g1, g2⟩ := hf x (List.mem_of_getElem? a1)
  refine Pl_in a1 (by omega) ?_ (fns x) 0 L rfl g1
  rw [bO (by omega)]
  exact ih (k + 1) m a3 (by simp at h2; omega)
structure WOK (E : List G.E) : Prop where
 l : E.length ≤ 1000
 f : ∀ e ∈ E, e.functions.length ≤ 1000
 p : ∀ e ∈ E, ∀ f ∈ e.functions, f.params.length ≤ 3
theorem fns_mem {e : G.E} {f : G.F} (h : f ∈ fns e) : f ∈ e.functions := by
 unfold fns at h
 revert h
 cases decide (e.kind = 3) || decide (e.kind = 5) || decide (e.kind = 6) || decide (e.kind = 7) with
 | true => exact id
 | false => intro h; cases h
theorem fns_len (e : G.E) : (fns e).length ≤ e.functions.length := by
 unfold fns
 cases decide (e.kind = 3) || decide (e.kind = 5) || decide (e.kind = 6) || decide (e.kind = 7) with
 | true => exact nlR _
 | false => exact Nat.zero_le _
theorem obL_pl {β : Type} {a b : Int} {d : Bool} {K : Int × Int × Bool × Unit → Option β} : obL (D := U0.D) [.int .i64, .int .i64, .bool] (some [yI a, yI b, yB d]) K = K (a, b, d, ()) := rfl
theorem obL_fb {β : Type} {a : G.F} {d : Bool} {K : G.F × Bool × Unit → Option β} : obL (D := U0.D) [.rc 4, .bool] (some [yR 4 a, yB d]) K = K (a, d, ()) := rfl
theorem Fu_ok {E : List G.E} (hE : WOK E) (f : G.Y) {L n : Nat} (hL : 2000 ≤ L) : ∃ (g : G.F) (b : Bool), CTp L (n + 3) 75 [yS 15 E, yR 1 f] = some [yR 4 g, yB b] ∧ g.params.length ≤ 3 := by
 have h94 : PlR E (CTp L (n + 2) 94 [yS 15 E, yR 1 f]) := by
  show PlR E (CTp L (n + 1 + 1) 94 _)
  rw [c94, F94, B94x0]
  have := hE.l
  exact Pl_out (by omega) (fun e he => by have := hE.f e he; have := fns_len e; omega) (fun e => Fn_ok e L n) E 0 L rfl (by omega)
 obtain ⟨i, k, b, h94, hb⟩ := h94
 show ∃ (g : G.F) (b : Bool), CTp L (n + 2 + 1) 75 _ = _ ∧ _
 rw [c75, F75, B75x0, h94, obL_pl]
 cases b with
 | false => exact ⟨_, _, rfl, Nat.zero_le _⟩
 | true =>
  obtain ⟨i', k', e, rfl, rfl, h1, h2⟩ := hb rfl
  have h3 : (fns e)[k']? = some (fns e)[k'] := geG h2
  simp only [bnT, aE]
  rw [aJ, h1, cO, Fn_ok, obL_fl]
  simp only [aJ, h3, cO]
  exact ⟨_, _, rfl, hE.p e (List.mem_of_getElem? h1) _ (fns_mem (List.getElem_mem h2))⟩
theorem rows_ar : (rowsL.all fun r => decide (0 ≤ r.arity) && decide (r.arity ≤ 3)) = true := by kernel_rfl
theorem xB : ∀ (l : List G.R), (l.all fun r => decide (0 ≤ r.arity) && decide (r.arity ≤ 3)) = true → ∀ s k, jR s l = some k → 0 ≤ k ∧ k ≤ 3
 | [], _, s, k, h => by cases h
 | r :: l, h, s, k, hk => by
  simp only [alC, bjE, djE] at h
  simp only [jR] at hk
  split at hk
  ·simp only [ojE] at hk; subst hk; exact h.1
  ·exact xB l h.2 s k hk
def ArR (x : Rt) : Prop := ∃ (k : Nat) (b : Bool), x = some [yI (k : Int), yB b] ∧ k ≤ 3
theorem Ar_ok {E : List G.E} (hE : WOK E) (f : G.Y) {L n : Nat} (hL : 2000 ≤ L) : ArR (CTp L (n + 4) 48 [yS 15 E, yR 1 f]) := by
 have h55 := aC1 f L (n + 1) (by omega)
 show ArR (CTp L (n + 3 + 1) 48 _)
 rw [c48, F48, B48x0]
 show ArR (obL (D := U0.D) [.int .i64, .bool] (CTp L (n + 1 + 2) 55 [yR 1 f]) _)
 rw [h55]
 cases ha : arity f with
 | some k =>
  obtain ⟨g1, g2⟩ : 0 ≤ k ∧ k ≤ 3 := by
   unfold arity at ha
   split at ha
   ·exact xB rowsL rows_ar _ _ ha
   ·cases ha
  obtain ⟨m, rfl⟩ : ∃ m : Nat, k = (m : Int) := ⟨k.toNat, by omega⟩
  exact ⟨m, true, rfl, by omega⟩
 | none =>
  simp only [oI]
  rw [aBQ, aE]
  obtain ⟨g, b, h1, h2⟩ := Fu_ok (n := n) hE f hL
  rw [h1, obL_fb]
  cases b with
  | false => exact ⟨0, false, rfl, by omega⟩
  | true => exact ⟨g.params.length, true, rfl, h2⟩
end Go.TV
namespace Go.TV
open Go.AI Go.PI Go.Proofs
theorem cst_some {t u : Ty} {x : Den U0.D t} {y : Den U0.D u} (h : cst t u x = some y) : (⟨t, x⟩ : TV U0.D) = ⟨u, y⟩ := by
 unfold cst at h
 split at h
 ·rename_i e _; subst e; simp only [ojE] at h; subst h; rfl
 ·cases h
theorem aCm : ∀ {ts : List Ty} {d : TVs} {r : DenL U0.D ts}, dG ts d = some r → d = tvL ts r
 | [], [], _, _ => rfl
 | [], _ :: _, _, h => by cases h
 | _ :: _, [], _, h => by cases h
 | t :: ts, v :: d, r, h => by
  simp only [dG] at h
  split at h
  ·rename_i x q h1 h2
   simp only [ojE] at h
   subst h
   show v :: d = ⟨t, x⟩ :: tvL ts q
   rw [← aCm h2, ← cst_some h1]
  ·cases h
def hx (ts : List Ty) (d : TVs) (K : DenL U0.D ts → Rt) (z : Rt) : Rt := match dG ts d with | some r => K r | none => z
theorem bT {ts : List Ty} {d : TVs} {K : DenL U0.D ts → Rt} {z : Rt} (h : ∀ r, d = tvL ts r → K r = z) : hx ts d K z = z := by
 unfold hx
 split
 ·rename_i r e; exact h r (aCm e)
 ·rfl
def Hk (i : Nat) (h : TC0 → Nat → TVs → Rt → Rt) (L m : Nat) (d : TVs) : Prop := h (CTp L m) L d (CTp L (m + 1) i d) = CTp L (m + 1) i d
theorem evq {b : Bool} {x y z : Rt} (h1 : b = true → x = z) (h2 : y = z) : (bif b then x else y) = z := by cases b; exact h2; exact h1 rfl
theorem evc {b : Bool} {x y z : Rt} (h1 : x = z) (h2 : y = z) : (bif b then x else y) = z := by cases b; exact h2; exact h1
noncomputable def hG (i : Nat) (c : TC0) (L : Nat) (d : TVs) (z : Rt) : Rt :=
 match mK insL i with
 | some x => bif Nat.beq x.sig.f orcI.n then z else xF x c (cu c L) d
 | none => z
theorem dH (i L m : Nat) (d : TVs) : hG i (CTp L m) L d (CTp L (m + 1) i d) = CTp L (m + 1) i d := by
 unfold hG
 split
 ·rename_i x hx
  cases hb : Nat.beq x.sig.f orcI.n with
  | true => rfl
  | false => exact (cg hx hb L m d).symm
 ·rfl
end Go.TV
namespace Go.TV
open Go.AI Go.PI Go.Proofs
set_option maxRecDepth 20000
def h2 (c : TC0) (L : Nat) (d : TVs) (z : Rt) : Rt := hx [(.int .u32)] d (fun r => F2 c L r.1) z
theorem g2 (L m : Nat) (d : TVs) : Hk 2 h2 L m d := bT fun r e => e ▸ (c2 r.1 L m).symm
def h4 (c : TC0) (L : Nat) (d : TVs) (z : Rt) : Rt := hx [zS 3] d (fun r => F4 c L r.1) z
theorem g4 (L m : Nat) (d : TVs) : Hk 4 h4 L m d := bT fun r e => e ▸ (c4 r.1 L m).symm
def h9 (c : TC0) (L : Nat) (d : TVs) (z : Rt) : Rt := hx [.rc 3, .rc 3] d (fun r => F9 c L r.1 r.2.1) z
theorem g9 (L m : Nat) (d : TVs) : Hk 9 h9 L m d := bT fun r e => e ▸ (c9 r.1 r.2.1 L m).symm
def h10 (c : TC0) (L : Nat) (d : TVs) (z : Rt) : Rt := hx [] d (fun _ => F10 c L) z
theorem g10 (L m : Nat) (d : TVs) : Hk 10 h10 L m d := bT fun r e => e ▸ (c10 L m).symm
def h19 (c : TC0) (L : Nat) (d : TVs) (z : Rt) : Rt := hx [.rc 3, zS 3, zS 3] d (fun r => F19 c L r.1 r.2.1 r.2.2.1) z
theorem g19 (L m : Nat) (d : TVs) : Hk 19 h19 L m d := bT fun r e => e ▸ (c19 r.1 r.2.1 r.2.2.1 L m).symm
def h27 (c : TC0) (L : Nat) (d : TVs) (z : Rt) : Rt := hx [.rc 2, .rc 2] d (fun r => F27 c L r.1 r.2.1) z
theorem g27 (L m : Nat) (d : TVs) : Hk 27 h27 L m d := bT fun r e => e ▸ (c27 r.1 r.2.1 L m).symm
def h28 (c : TC0) (L : Nat) (d : TVs) (z : Rt) : Rt := hx [zS 3, zS 3] d (fun r => F28 c L r.1 r.2.1) z
theorem g28 (L m : Nat) (d : TVs) : Hk 28 h28 L m d := bT fun r e => e ▸ (c28 r.1 r.2.1 L m).symm
def h29 (c : TC0) (L : Nat) (d : TVs) (z : Rt) : Rt := hx [] d (fun _ => F29 c L) z
theorem g29 (L m : Nat) (d : TVs) : Hk 29 h29 L m d := bT fun r e => e ▸ (c29 L m).symm
def h31 (c : TC0) (L : Nat) (d : TVs) (z : Rt) : Rt := hx [.str] d (fun r => F31 c L r.1) z
theorem g31 (L m : Nat) (d : TVs) : Hk 31 h31 L m d := bT fun r e => e ▸ (c31 r.1 L m).symm
def h45 (c : TC0) (L : Nat) (d : TVs) (z : Rt) : Rt := hx [] d (fun _ => F45 c L) z
theorem g45 (L m : Nat) (d : TVs) : Hk 45 h45 L m d := bT fun r e => e ▸ (c45 L m).symm
def h46 (c : TC0) (L : Nat) (d : TVs) (z : Rt) : Rt := hx [] d (fun _ => F46 c L) z
theorem g46 (L m : Nat) (d : TVs) : Hk 46 h46 L m d := bT fun r e => e ▸ (c46 L m).symm
def h48 (c : TC0) (L : Nat) (d : TVs) (z : Rt) : Rt := hx [zS 15, .rc 1] d (fun r => F48 c L r.1 r.2.1) z
theorem g48 (L m : Nat) (d : TVs) : Hk 48 h48 L m d := bT fun r e => e ▸ (c48 r.1 r.2.1 L m).symm
def h51 (c : TC0) (L : Nat) (d : TVs) (z : Rt) : Rt := hx [zS 3, .rc 3] d (fun r => F51 c L r.1 r.2.1) z
theorem g51 (L m : Nat) (d : TVs) : Hk 51 h51 L m d := bT fun r e => e ▸ (c51 r.1 r.2.1 L m).symm
def h52 (c : TC0) (L : Nat) (d : TVs) (z : Rt) : Rt := hx [zS 3, .rc 3] d (fun r => F52 c L r.1 r.2.1) z
theorem g52 (L m : Nat) (d : TVs) : Hk 52 h52 L m d := bT fun r e => e ▸ (c52 r.1 r.2.1 L m).symm
def h53 (c : TC0) (L : Nat) (d : TVs) (z : Rt) : Rt := hx [.rc 3, .rc 3] d (fun r => F53 c L r.1 r.2.1) z
theorem g53 (L m : Nat) (d : TVs) : Hk 53 h53 L m d := bT fun r e => e ▸ (c53 r.1 r.2.1 L m).symm
def h55 (c : TC0) (L : Nat) (d : TVs) (z : Rt) : Rt := hx [.rc 1] d (fun r => F55 c L r.1) z
theorem g55 (L m : Nat) (d : TVs) : Hk 55 h55 L m d := bT fun r e => e ▸ (c55 r.1 L m).symm
def h58 (c : TC0) (L : Nat) (d : TVs) (z : Rt) : Rt := hx [.rc 3] d (fun r => F58 c L r.1) z
theorem g58 (L m : Nat) (d : TVs) : Hk 58 h58 L m d := bT fun r e => e ▸ (c58 r.1 L m).symm
def h59 (c : TC0) (L : Nat) (d : TVs) (z : Rt) : Rt := hx [] d (fun _ => F59 c L) z
theorem g59 (L m : Nat) (d : TVs) : Hk 59 h59 L m d := bT fun r e => e ▸ (c59 L m).symm
def h60 (c : TC0) (L : Nat) (d : TVs) (z : Rt) : Rt := hx [] d (fun _ => F60 c L) z
theorem g60 (L m : Nat) (d : TVs) : Hk 60 h60 L m d := bT fun r e => e ▸ (c60 L m).symm
def h61 (c : TC0) (L : Nat) (d : TVs) (z : Rt) : Rt := hx [zS 5, .str, .str] d (fun r => F61 c L r.1 r.2.1 r.2.2.1) z
theorem g61 (L m : Nat) (d : TVs) : Hk 61 h61 L m d := bT fun r e => e ▸ (c61 r.1 r.2.1 r.2.2.1 L m).symm
def h75 (c : TC0) (L : Nat) (d : TVs) (z : Rt) : Rt := hx [zS 15, .rc 1] d (fun r => F75 c L r.1 r.2.1) z
theorem g75 (L m : Nat) (d : TVs) : Hk 75 h75 L m d := bT fun r e => e ▸ (c75 r.1 r.2.1 L m).symm
def h76 (c : TC0) (L : Nat) (d : TVs) (z : Rt) : Rt := hx [.rc 3] d (fun r => F76 c L r.1) z
theorem g76 (L m : Nat) (d : TVs) : Hk 76 h76 L m d := bT fun r e => e ▸ (c76 r.1 L m).symm
def h77 (c : TC0) (L : Nat) (d : TVs) (z : Rt) : Rt := hx [.rc 1] d (fun r => F77 c L r.1) z
theorem g77 (L m : Nat) (d : TVs) : Hk 77 h77 L m d := bT fun r e => e ▸ (c77 r.1 L m).symm
def h78 (c : TC0) (L : Nat) (d : TVs) (z : Rt) : Rt := hx [zS 3, .rc 3] d (fun r => F78 c L r.1 r.2.1) z
theorem g78 (L m : Nat) (d : TVs) : Hk 78 h78 L m d := bT fun r e => e ▸ (c78 r.1 r.2.1 L m).symm
def h79 (c : TC0) (L : Nat) (d : TVs) (z : Rt) : Rt := hx [.rc 2, .rc 2] d (fun r => F79 c L r.1 r.2.1) z
theorem g79 (L m : Nat) (d : TVs) : Hk 79 h79 L m d := bT fun r e => e ▸ (c79 r.1 r.2.1 L m).symm
def h80 (c : TC0) (L : Nat) (d : TVs) (z : Rt) : Rt := hx [zS 3, zS 3] d (fun r => F80 c L r.1 r.2.1) z
theorem g80 (L m : Nat) (d : TVs) : Hk 80 h80 L m d := bT fun r e => e ▸ (c80 r.1 r.2.1 L m).symm
def h81 (c : TC0) (L : Nat) (d : TVs) (z : Rt) : Rt := hx [] d (fun _ => F81 c L) z
theorem g81 (L m : Nat) (d : TVs) : Hk 81 h81 L m d := bT fun r e => e ▸ (c81 L m).symm
def h82 (c : TC0) (L : Nat) (d : TVs) (z : Rt) : Rt := hx [zS 1, .rc 1] d (fun r => F82 c L r.1 r.2.1) z
theorem g82 (L m : Nat) (d : TVs) : Hk 82 h82 L m d := bT fun r e => e ▸ (c82 r.1 r.2.1 L m).symm
def h85 (c : TC0) (L : Nat) (d : TVs) (z : Rt) : Rt := hx [i6, .rc 20] d (fun r => F85 c L r.1 r.2.1) z
theorem g85 (L m : Nat) (d : TVs) : Hk 85 h85 L m d := bT fun r e => e ▸ (c85 r.1 r.2.1 L m).symm
def h94 (c : TC0) (L : Nat) (d : TVs) (z : Rt) : Rt := hx [zS 15, .rc 1] d (fun r => F94 c L r.1 r.2.1) z
theorem g94 (L m : Nat) (d : TVs) : Hk 94 h94 L m d := bT fun r e => e ▸ (c94 r.1 r.2.1 L m).symm
def h95 (c : TC0) (L : Nat) (d : TVs) (z : Rt) : Rt := hx [.rc 15] d (fun r => F95 c L r.1) z
theorem g95 (L m : Nat) (d : TVs) : Hk 95 h95 L m d := bT fun r e => e ▸ (c95 r.1 L m).symm
def h96 (c : TC0) (L : Nat) (d : TVs) (z : Rt) : Rt := hx [.rc 3] d (fun r => F96 c L r.1) z
theorem g96 (L m : Nat) (d : TVs) : Hk 96 h96 L m d := bT fun r e => e ▸ (c96 r.1 L m).symm
def h97 (c : TC0) (L : Nat) (d : TVs) (z : Rt) : Rt := hx [.rc 1] d (fun r => F97 c L r.1) z
theorem g97 (L m : Nat) (d : TVs) : Hk 97 h97 L m d := bT fun r e => e ▸ (c97 r.1 L m).symm
def h98 (c : TC0) (L : Nat) (d : TVs) (z : Rt) : Rt := hx [.rc 3, .rc 3] d (fun r => F98 c L r.1 r.2.1) z
theorem g98 (L m : Nat) (d : TVs) : Hk 98 h98 L m d := bT fun r e => e ▸ (c98 r.1 r.2.1 L m).symm
def h99 (c : TC0) (L : Nat) (d : TVs) (z : Rt) : Rt := hx [.rc 3, .str, i6] d (fun r => F99 c L r.1 r.2.1 r.2.2.1) z
theorem g99 (L m : Nat) (d : TVs) : Hk 99 h99 L m d := bT fun r e => e ▸ (c99 r.1 r.2.1 r.2.2.1 L m).symm
def h102 (c : TC0) (L : Nat) (d : TVs) (z : Rt) : Rt := hx [i6, .rc 20] d (fun r => F102 c L r.1 r.2.1) z
theorem g102 (L m : Nat) (d : TVs) : Hk 102 h102 L m d := bT fun r e => e ▸ (c102 r.1 r.2.1 L m).symm
def h103 (c : TC0) (L : Nat) (d : TVs) (z : Rt) : Rt := hx [zS 5, .str, .str] d (fun r => F103 c L r.1 r.2.1 r.2.2.1) z
theorem g103 (L m : Nat) (d : TVs) : Hk 103 h103 L m d := bT fun r e => e ▸ (c103 r.1 r.2.1 r.2.2.1 L m).symm
def h104 (c : TC0) (L : Nat) (d : TVs) (z : Rt) : Rt := hx [.rc 2, i6] d (fun r => F104 c L r.1 r.2.1) z
theorem g104 (L m : Nat) (d : TVs) : Hk 104 h104 L m d := bT fun r e => e ▸ (c104 r.1 r.2.1 L m).symm
def h110 (c : TC0) (L : Nat) (d : TVs) (z : Rt) : Rt := hx [zS 15, .rc 1] d (fun r => F110 c L r.1 r.2.1) z
theorem g110 (L m : Nat) (d : TVs) : Hk 110 h110 L m d := bT fun r e => e ▸ (c110 r.1 r.2.1 L m).symm
def h122 (c : TC0) (L : Nat) (d : TVs) (z : Rt) : Rt := hx [.rc 3] d (fun r => F122 c L r.1) z
theorem g122 (L m : Nat) (d : TVs) : Hk 122 h122 L m d := bT fun r e => e ▸ (c122 r.1 L m).symm
def h123 (c : TC0) (L : Nat) (d : TVs) (z : Rt) : Rt := hx [.rc 3, .rc 3] d (fun r => F123 c L r.1 r.2.1) z
theorem g123 (L m : Nat) (d : TVs) : Hk 123 h123 L m d := bT fun r e => e ▸ (c123 r.1 r.2.1 L m).symm
def h127 (c : TC0) (L : Nat) (d : TVs) (z : Rt) : Rt := hx [.rc 19, .bool] d (fun r => F127 c L r.1 r.2.1) z
theorem g127 (L m : Nat) (d : TVs) : Hk 127 h127 L m d := bT fun r e => e ▸ (c127 r.1 r.2.1 L m).symm
def h131 (c : TC0) (L : Nat) (d : TVs) (z : Rt) : Rt := hx [.str] d (fun r => F131 c L r.1) z
theorem g131 (L m : Nat) (d : TVs) : Hk 131 h131 L m d := bT fun r e => e ▸ (c131 r.1 L m).symm
def h134 (c : TC0) (L : Nat) (d : TVs) (z : Rt) : Rt := hx [zS 5, .str] d (fun r => F134 c L r.1 r.2.1) z
theorem g134 (L m : Nat) (d : TVs) : Hk 134 h134 L m d := bT fun r e => e ▸ (c134 r.1 r.2.1 L m).symm
def h147 (c : TC0) (L : Nat) (d : TVs) (z : Rt) : Rt := hx [.rc 3, .rc 3] d (fun r => F147 c L r.1 r.2.1) z
theorem g147 (L m : Nat) (d : TVs) : Hk 147 h147 L m d := bT fun r e => e ▸ (c147 r.1 r.2.1 L m).symm
def h156 (c : TC0) (L : Nat) (d : TVs) (z : Rt) : Rt := hx [.str] d (fun r => F156 c L r.1) z
theorem g156 (L m : Nat) (d : TVs) : Hk 156 h156 L m d := bT fun r e => e ▸ (c156 r.1 L m).symm
noncomputable def hAll (i : Nat) (c : TC0) (L : Nat) (d : TVs) (z : Rt) : Rt := (bif Nat.beq i 78 then h78 c L d z else bif Nat.blt i 78 then (bif Nat.beq i 48 then h48 c L d z else bif Nat.blt i 48 then (bif Nat.beq i 27 then h27 c L d z else bif Nat.blt i 27 then (bif Nat.beq i 9 then h9 c L d z else bif Nat.blt i 9 then (bif Nat.beq i 4 then h4 c L d z else bif Nat.blt i 4 then (bif Nat.beq i 2 then h2 c L d z else hG i c L d z) else hG i c L d z) else (bif Nat.beq i 19 then h19 c L d z else bif Nat.blt i 19 then (bif Nat.beq i 10 then h10 c L d z else hG i c L d z) else hG i c L d z)) else (bif Nat.beq i 31 then h31 c L d z else bif Nat.blt i 31 then (bif Nat.beq i 29 then h29 c L d z else bif Nat.blt i 29 then (bif Nat.beq i 28 then h28 c L d z else hG i c L d z) else hG i c L d z) else (bif Nat.beq i 46 then h46 c L d z else bif Nat.blt i 46 then (bif Nat.beq i 45 then h45 c L d z else hG i c L d z) else hG i c L d z))) else (bif Nat.beq i 59 then h59 c L d z else bif Nat.blt i 59 then (bif Nat.beq i 53 then h53 c L d z else bif Nat.blt i 53 then (bif Nat.beq i 52 then h52 c L d z else bif Nat.blt i 52 then (bif Nat.beq i 51 then h51 c L d z else hG i c L d z) else hG i c L d z) else (bif Nat.beq i 58 then h58 c L d z else bif Nat.blt i 58 then (bif Nat.beq i 55 then h55 c L d z else hG i c L d z) else hG i c L d z)) else (bif Nat.beq i 75 then h75 c L d z else bif Nat.blt i 75 then (bif Nat.beq i 61 then h61 c L d z else bif Nat.blt i 61 then (bif Nat.beq i 60 then h60 c L d z else hG i c L d z) else hG i c L d z) else (bif Nat.beq i 77 then h77 c L d z else bif Nat.blt i 77 then (bif Nat.beq i 76 then h76 c L d z else hG i c L d z) else hG i c L d z)))) else (bif Nat.beq i 102 then h102 c L d z else bif Nat.blt i 102 then (bif Nat.beq i 94 then h94 c L d z else bif Nat.blt i 94 then (bif Nat.beq i 81 then h81 c L d z else bif Nat.blt i 81 then (bif Nat.beq i 80 then h80 c L d z else bif Nat.blt i 80 then (bif Nat.beq i 79 then h79 c L d z else hG i c L d z) else hG i c L d z) else (bif Nat.beq i 85 then h85 c L d z else bif Nat.blt i 85 then (bif Nat.beq i 82 then h82 c L d z else hG i c L d z) else hG i c L d z)) else (bif Nat.beq i 97 then h97 c L d z else bif Nat.blt i 97 then (bif Nat.beq i 96 then h96 c L d z else bif Nat.blt i 96 then (bif Nat.beq i 95 then h95 c L d z else hG i c L d z) else hG i c L d z) else (bif Nat.beq i 99 then h99 c L d z else bif Nat.blt i 99 then (bif Nat.beq i 98 then h98 c L d z else hG i c L d z) else hG i c L d z))) else (bif Nat.beq i 127 then h127 c L d z else bif Nat.blt i 127 then (bif Nat.beq i 110 then h110 c L d z else bif Nat.blt i 110 then (bif Nat.beq i 104 then h104 c L d z else bif Nat.blt i 104 then (bif Nat.beq i 103 then h103 c L d z else hG i c L d z) else hG i c L d z) else (bif Nat.beq i 123 then h123 c L d z else bif Nat.blt i 123 then (bif Nat.beq i 122 then h122 c L d z else hG i c L d z) else hG i c L d z)) else (bif Nat.beq i 147 then h147 c L d z else bif Nat.blt i 147 then (bif Nat.beq i 134 then h134 c L d z else bif Nat.blt i 134 then (bif Nat.beq i 131 then h131 c L d z else hG i c L d z) else hG i c L d z) else (bif Nat.beq i 156 then h156 c L d z else hG i c L d z)))))
theorem hAll_ok (i L m : Nat) (d : TVs) : hAll i (CTp L m) L d (CTp L (m + 1) i d) = CTp L (m + 1) i d := (evq (fun e => (nqE e).symm ▸ g78 L m d) (evc (evq (fun e => (nqE e).symm ▸ g48 L m d) (evc (evq (fun e => (nqE e).symm ▸ g27 L m d) (evc (evq (fun e => (nqE e).symm ▸ g9 L m d) (evc (evq (fun e => (nqE e).symm ▸ g4 L m d) (evc (evq (fun e => (nqE e).symm ▸ g2 L m d) (dH i L m d)) (dH i L m d))) (evq (fun e => (nqE e).symm ▸ g19 L m d) (evc (evq (fun e => (nqE e).symm ▸ g10 L m d) (dH i L m d)) (dH i L m d))))) (evq (fun e => (nqE e).symm ▸ g31 L m d) (evc (evq (fun e => (nqE e).symm ▸ g29 L m d) (evc (evq (fun e => (nqE e).symm ▸ g28 L m d) (dH i L m d)) (dH i L m d))) (evq (fun e => (nqE e).symm ▸ g46 L m d) (evc (evq (fun e => (nqE e).symm ▸ g45 L m d) (dH i L m d)) (dH i L m d))))))) (evq (fun e => (nqE e).symm ▸ g59 L m d) (evc (evq (fun e => (nqE e).symm ▸ g53 L m d) (evc (evq (fun e => (nqE e).symm ▸ g52 L m d) (evc (evq (fun e => (nqE e).symm ▸ g51 L m d) (dH i L m d)) (dH i L m d))) (evq (fun e => (nqE e).symm ▸ g58 L m d) (evc (evq (fun e => (nqE e).symm ▸ g55 L m d) (dH i L m d)) (dH i L m d))))) (evq (fun e => (nqE e).symm ▸ g75 L m d) (evc (evq (fun e => (nqE e).symm ▸ g61 L m d) (evc (evq (fun e => (nqE e).symm ▸ g60 L m d) (dH i L m d)) (dH i L m d))) (evq (fun e => (nqE e).symm ▸ g77 L m d) (evc (evq (fun e => (nqE e).symm ▸ g76 L m d) (dH i L m d)) (dH i L m d))))))))) (evq (fun e => (nqE e).symm ▸ g102 L m d) (evc (evq (fun e => (nqE e).symm ▸ g94 L m d) (evc (evq (fun e => (nqE e).symm ▸ g81 L m d) (evc (evq (fun e => (nqE e).symm ▸ g80 L m d) (evc (evq (fun e => (nqE e).symm ▸ g79 L m d) (dH i L m d)) (dH i L m d))) (evq (fun e => (nqE e).symm ▸ g85 L m d) (evc (evq (fun e => (nqE e).symm ▸ g82 L m d) (dH i L m d)) (dH i L m d))))) (evq (fun e => (nqE e).symm ▸ g97 L m d) (evc (evq (fun e => (nqE e).symm ▸ g96 L m d) (evc (evq (fun e => (nqE e).symm ▸ g95 L m d) (dH i L m d)) (dH i L m d))) (evq (fun e => (nqE e).symm ▸ g99 L m d) (evc (evq (fun e => (nqE e).symm ▸ g98 L m d) (dH i L m d)) (dH i L m d))))))) (evq (fun e => (nqE e).symm ▸ g127 L m d) (evc (evq (fun e => (nqE e).symm ▸ g110 L m d) (evc (evq (fun e => (nqE e).symm ▸ g104 L m d) (evc (evq (fun e => (nqE e).symm ▸ g103 L m d) (dH i L m d)) (dH i L m d))) (evq (fun e => (nqE e).symm ▸ g123 L m d) (evc (evq (fun e => (nqE e).symm ▸ g122 L m d) (dH i L m d)) (dH i L m d))))) (evq (fun e => (nqE e).symm ▸ g147 L m d) (evc (evq (fun e => (nqE e).symm ▸ g134 L m d) (evc (evq (fun e => (nqE e).symm ▸ g131 L m d) (dH i L m d)) (dH i L m d))) (evq (fun e => (nqE e).symm ▸ g156 L m d) (dH i L m d))))))))))
end Go.TV
namespace Go.TV
open Go.AI Go.PI Go.Proofs
noncomputable def evB (K : TC0) (up : Nat → TC0) (L : Nat) : Nat → TC0
 | 0 => up 0
 | n + 1 => fun i d => match K i d with | some r => some r | none => hAll i (evB K up L n) L d (up (n + 1) i d)
noncomputable def upT (L N : Nat) : Nat → TC0 := fun n => CTp L (N + n)
theorem aCi {K : TC0} {L N : Nat} (hK : ∀ n i d r, K i d = some r → CTp L (N + n + 1) i d = some r) : ∀ n, evB K (upT L N) L n = CTp L (N + n)
 | 0 => rfl
 | n + 1 => by
  funext i d
  show (match K i d with | some r => some r | none => hAll i (evB K (upT L N) L n) L d (CTp L (N + n + 1) i d)) = CTp L (N + n + 1) i d
  rw [aCi hK n]
  split
  ·rename_i r e; exact (hK n i d r e).symm
  ·exact hAll_ok i L (N + n) d
end Go.TV
namespace Go.TV
open Go.AI Go.PI Go.Proofs
set_option maxRecDepth 20000
theorem call_o {P : Program} {T : TP U0.D} {l : List (Nat × Ins)} {i : Nat} {x : Ins} (hx : mK l i = some x) (hs : T.sig i = some x.sig) (hb : (okS T.orc x.sig && Nat.ble x.sig.bx.length 100 && okBx x.sig.bx.length x.sig.bx) = true) (L n : Nat) (d : TVs) {y : List UInt8} (ho : orT U0 T.orc x.sig d = some y) :
    wX U0 T (tabL P l) L (n + 1) i d = some [yT y] := by
 have hg : tabL P l i = some (eP x.sk (lJ P x.sig.f), aDa P x.sig.f) := by simp only [tabL, hx]
 simp only [wX, hs, hg, hb, cdt, ho]
def Kf : TC0 := fun i d => bif Nat.beq i 155 then (match orT U0 orcI ii155.sig d with | some x => some [⟨.str, x⟩] | none => none) else none
noncomputable def cF (L M k : Nat) : TC0 := evB Kf (upT (L + 7000) M) (L + 7000) k
theorem cF_ok (L M k : Nat) : cF L M k = CTp (L + 7000) (M + k) := aCi (fun n i d r h => by
 unfold Kf at h
 cases hb : Nat.beq i 155 with
 | false => rw [hb] at h; cases h
 | true =>
  rw [hb, cdt] at h
  split at h
  ·rename_i x hx
   simp only [ojE] at h
   subst h
   rw [nqE hb]
   exact call_o (x := ii155) (by kernel_rfl) (by kernel_rfl) (by kernel_rfl) _ _ d hx
  ·cases h) k
def userS : List UInt8 := [117, 115, 101, 114]
def zrO : G.O := ⟨0, [], [], ⟨[], []⟩, [], []⟩
def tV (w : List UInt8) : G.T := ⟨1, ⟨userS, w⟩, zrO, []⟩
def tA (f : G.Y) (l : List G.T) : G.T := ⟨3, f, zrO, l⟩
def tC (o : G.O) : G.T := ⟨2, ⟨[], []⟩, o, []⟩
def niO : G.O := ⟨2, [], [], ⟨kB, [110, 105, 108]⟩, [], []⟩
def cnO (a b : G.O) : G.O := ⟨4, [], [], ⟨[], []⟩, [], [a, b]⟩
def ObR (x : Rt) : Prop := ∃ o : G.O, x = some [yR 2 o] ∧ osz o ≤ 20
def chO (r : Rt) : Bool := match r with | some [⟨.rc 2, o⟩] => Nat.ble (osz o) 20 | _ => false
theorem lI {r : Rt} (h : chO r = true) : ObR r := by
 unfold chO at h
 split at h
 ·rename_i o; exact ⟨o, rfl, Nat.le_of_ble_eq_true h⟩
 ·cases h
section
variable (L M : Nat)
theorem v_ok (w : List UInt8) : cF L M 60 7 [yT w] = some [yR 3 (tV w)] := by kernel_rfl
theorem l_ok (w : List UInt8) (l : List G.T) : cF L M 60 8 [yT w, yS 3 l] = some [yR 3 (tA ⟨kB, w⟩ l)] := by kernel_rfl
theorem a_ok (f : G.Y) (l : List G.T) : cF L M 60 42 [yR 1 f, yS 3 l] = some [yR 3 (tA f l)] := by kernel_rfl
theorem k_ok (o : G.O) : cF L M 60 44 [yR 2 o] = some [yR 3 (tC o)] := by kernel_rfl
theorem u_ok (w : List UInt8) : cF L M 60 13 [yT w] = some [yR 1 ⟨userS, w⟩] := by kernel_rfl
theorem s_ok (w : List UInt8) : cF L M 60 47 [yT w] = some [yR 1 ⟨kB, w⟩] := by kernel_rfl
theorem cn_ok (a b : G.O) : cF L M 60 73 [yR 2 a, yR 2 b] = some [yR 2 (cnO a b)] := by kernel_rfl
theorem li0_ok : cF L M 60 74 [yS 2 []] = some [yR 2 niO] := by kernel_rfl
theorem li1_ok (a : G.O) : cF L M 60 74 [yS 2 ([a] : List G.O)] = some [yR 2 (cnO a niO)] := by kernel_rfl
theorem li2_ok (a b : G.O) : cF L M 60 74 [yS 2 ([a, b] : List G.O)] = some [yR 2 (cnO a (cnO b niO))] := by kernel_rfl
theorem li3_ok (a b d : G.O) : cF L M 60 74 [yS 2 ([a, b, d] : List G.O)] = some [yR 2 (cnO a (cnO b (cnO d niO)))] := by kernel_rfl
theorem ob_n : ObR (cF L M 60 67 []) := lI (by kernel_rfl)
theorem ob_t : ObR (cF L M 60 63 []) := lI (by kernel_rfl)
theorem ob_i (r : Int) (h0 : 0 ≤ r) (h1 : r < 7) : ObR (cF L M 60 68 [yI (IntKind.i64.wrap (r - 3))]) := by
 obtain rfl | rfl | rfl | rfl | rfl | rfl | rfl : r = 0 ∨ r = 1 ∨ r = 2 ∨ r = 3 ∨ r = 4 ∨ r = 5 ∨ r = 6 := by omega
 all_goals exact lI (by kernel_rfl)
theorem ob_0 : ObR (cF L M 60 68 [yI (0 : Int)]) := lI (by kernel_rfl)
theorem ob_1 : ObR (cF L M 60 68 [yI (1 : Int)]) := lI (by kernel_rfl)
theorem ob_q1 : ObR (cF L M 60 70 [yT ([49] : List UInt8), yT ([50] : List UInt8)]) := lI (by kernel_rfl)
theorem ob_q2 : ObR (cF L M 60 70 [yT ([45, 53] : List UInt8), yT ([51] : List UInt8)]) := lI (by kernel_rfl)
theorem ob_s1 (y : G.Y) : ObR (cF L M 60 71 [yR 1 y]) := lI (by kernel_rfl)
theorem ob_x (w : List UInt8) : ObR (cF L M 60 72 [yT w]) := lI (by kernel_rfl)
theorem hd_ok : ∃ l : List (List UInt8), cF L M 60 45 [] = some [⟨.sl .str, l⟩] ∧ l.length = 25 := ⟨match B45x0 (fun _ _ => none) with | some (⟨.sl .str, t⟩ :: _) => t | _ => [], by kernel_rfl, by kernel_rfl⟩
theorem ow_ok : ∃ l : List (List UInt8), cF L M 60 46 [] = some [⟨.sl .str, l⟩] ∧ l.length = 8 := ⟨match B46x0 (fun _ _ => none) with | some (⟨.sl .str, t⟩ :: _) => t | _ => [], by kernel_rfl, by kernel_rfl⟩
end
structure Lib (c : TC0) : Prop where
 v : ∀ w, c 7 [yT w] = some [yR 3 (tV w)]
 l : ∀ w (l : List G.T), c 8 [yT w, yS 3 l] = some [yR 3 (tA ⟨kB, w⟩ l)]
 a : ∀ (f : G.Y) (l : List G.T), c 42 [yR 1 f, yS 3 l] = some [yR 3 (tA f l)]
 k : ∀ o : G.O, c 44 [yR 2 o] = some [yR 3 (tC o)]
 u : ∀ w, c 13 [yT w] = some [yR 1 (⟨userS, w⟩ : G.Y)]
 s : ∀ w, c 47 [yT w] = some [yR 1 (⟨kB, w⟩ : G.Y)]
 cn : ∀ a b : G.O, c 73 [yR 2 a, yR 2 b] = some [yR 2 (cnO a b)]
 l0 : c 74 [yS 2 ([] : List G.O)] = some [yR 2 niO]
 l1 : ∀ a : G.O, c 74 [yS 2 ([a] : List G.O)] = some [yR 2 (cnO a niO)]
 l2 : ∀ a b : G.O, c 74 [yS 2 ([a, b] : List G.O)] = some [yR 2 (cnO a (cnO b niO))]
 l3 : ∀ a b d : G.O, c 74 [yS 2 ([a, b, d] : List G.O)] = some [yR 2 (cnO a (cnO b (cnO d niO)))]
 n : ObR (c 67 [])
 t : ObR (c 63 [])
 i : ∀ r : Int, 0 ≤ r → r < 7 → ObR (c 68 [yI (IntKind.i64.wrap (r - 3))])
 i0 : ObR (c 68 [yI (0 : Int)])
 i1 : ObR (c 68 [yI (1 : Int)])
 q1 : ObR (c 70 [yT ([49] : List UInt8), yT ([50] : List UInt8)])
 q2 : ObR (c 70 [yT ([45, 53] : List UInt8), yT ([51] : List UInt8)])
 sy : ∀ y : G.Y, ObR (c 71 [yR 1 y])
 x : ∀ w, ObR (c 72 [yT w])
 hd : ∃ l : List (List UInt8), c 45 [] = some [⟨.sl .str, l⟩] ∧ l.length = 25
 ow : ∃ l : List (List UInt8), c 46 [] = some [⟨.sl .str, l⟩] ∧ l.length = 8
 nx : ∀ (s : G.Z) (a : Int), bG s → 1 ≤ a → NxR (c 16 [yI a, yR 0 s]) a
theorem lib_ok (L M : Nat) : Lib (CTp (L + 7000) (M + 60)) := by
 have h : ∀ (s : G.Z) (a : Int), bG s → 1 ≤ a → NxR (CTp (L + 7000) (M + 60) 16 [yI a, yR 0 s]) a := fun s a h1 h2 => Nx_ok (n := M + 59) h1 h2
 rw [← cF_ok] at h ⊢
 exact ⟨v_ok L M, l_ok L M, a_ok L M, k_ok L M, u_ok L M, s_ok L M, cn_ok L M, li0_ok L M, li1_ok L M, li2_ok L M, li3_ok L M, ob_n L M, ob_t L M, ob_i L M, ob_0 L M, ob_1 L M, ob_q1 L M, ob_q2 L M, ob_s1 L M, ob_x L M, hd_ok L M, ow_ok L M, h⟩
end Go.TV
