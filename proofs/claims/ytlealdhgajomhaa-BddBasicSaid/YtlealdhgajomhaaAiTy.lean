/- Facts about the types of the seat's program. Made by program. -/
import Derived.Test.YtlealdhgajomhaaAiOk
import Derived.Test.YtlealdhgajomhaaAiY
namespace Go.Proofs.Ytlealdhgajomhaa
open Go.AI
set_option linter.unusedVariables false
set_option linter.unusedSimpArgs false

def lenV : Value → Option Value
  | .slice _ n _ => some (.int .i64 n)
  | .string s => some (.int .i64 s.size)
  | _ => none
theorem lenV_slice {a : Option Addr} {n c : Nat} : lenV (.slice a n c) = some (.int .i64 n) := rfl

theorem sz2 : szOf Try.prog 2 = some 1 := by kernel_rfl
theorem ag2 : aggOf Try.prog 2 = some false := by kernel_rfl
theorem ld2 {σ : St} {id off : Nat} : aload Try.prog σ 2 (.pointer (some ⟨id, off, none⟩)) = (σ.row id).bind fun r => r.1[off]? := by
  simp only [aload, ag2]; cases σ.row id <;> rfl
theorem st2 {σ : St} {id off : Nat} {x : Value} : astore Try.prog σ 2 (.pointer (some ⟨id, off, none⟩)) x = (σ.row id).bind fun r => stw σ id off 1 x r.1 r.2 := st_eq sz2
theorem sz3 : szOf Try.prog 3 = some 1 := by kernel_rfl
theorem ag3 : aggOf Try.prog 3 = some false := by kernel_rfl
theorem ld3 {σ : St} {id off : Nat} : aload Try.prog σ 3 (.pointer (some ⟨id, off, none⟩)) = (σ.row id).bind fun r => r.1[off]? := by
  simp only [aload, ag3]; cases σ.row id <;> rfl
theorem st3 {σ : St} {id off : Nat} {x : Value} : astore Try.prog σ 3 (.pointer (some ⟨id, off, none⟩)) x = (σ.row id).bind fun r => stw σ id off 1 x r.1 r.2 := st_eq sz3
theorem sz4 : szOf Try.prog 4 = some 1 := by kernel_rfl
theorem ag4 : aggOf Try.prog 4 = some false := by kernel_rfl
theorem ld4 {σ : St} {id off : Nat} : aload Try.prog σ 4 (.pointer (some ⟨id, off, none⟩)) = (σ.row id).bind fun r => r.1[off]? := by
  simp only [aload, ag4]; cases σ.row id <;> rfl
theorem st4 {σ : St} {id off : Nat} {x : Value} : astore Try.prog σ 4 (.pointer (some ⟨id, off, none⟩)) x = (σ.row id).bind fun r => stw σ id off 1 x r.1 r.2 := st_eq sz4
theorem sz5 : szOf Try.prog 5 = some 1 := by kernel_rfl
theorem ag5 : aggOf Try.prog 5 = some false := by kernel_rfl
theorem ld5 {σ : St} {id off : Nat} : aload Try.prog σ 5 (.pointer (some ⟨id, off, none⟩)) = (σ.row id).bind fun r => r.1[off]? := by
  simp only [aload, ag5]; cases σ.row id <;> rfl
theorem st5 {σ : St} {id off : Nat} {x : Value} : astore Try.prog σ 5 (.pointer (some ⟨id, off, none⟩)) x = (σ.row id).bind fun r => stw σ id off 1 x r.1 r.2 := st_eq sz5
theorem sz6 : szOf Try.prog 6 = some 1 := by kernel_rfl
theorem ag6 : aggOf Try.prog 6 = some false := by kernel_rfl
theorem ld6 {σ : St} {id off : Nat} : aload Try.prog σ 6 (.pointer (some ⟨id, off, none⟩)) = (σ.row id).bind fun r => r.1[off]? := by
  simp only [aload, ag6]; cases σ.row id <;> rfl
theorem st6 {σ : St} {id off : Nat} {x : Value} : astore Try.prog σ 6 (.pointer (some ⟨id, off, none⟩)) x = (σ.row id).bind fun r => stw σ id off 1 x r.1 r.2 := st_eq sz6
theorem sz7 : szOf Try.prog 7 = some 4 := by kernel_rfl
theorem ag7 : aggOf Try.prog 7 = some true := by kernel_rfl
theorem ld7 {σ : St} {id off : Nat} : aload Try.prog σ 7 (.pointer (some ⟨id, off, none⟩)) = (σ.row id).bind fun r => (cut r.1 off 4).map fun l => .agg l.toArray := by
  simp only [aload, ag7, sz7]; cases σ.row id <;> rfl
theorem st7 {σ : St} {id off : Nat} {x : Value} : astore Try.prog σ 7 (.pointer (some ⟨id, off, none⟩)) x = (σ.row id).bind fun r => stw σ id off 4 x r.1 r.2 := st_eq sz7
theorem sz8 : szOf Try.prog 8 = some 4 := by kernel_rfl
theorem ag8 : aggOf Try.prog 8 = some true := by kernel_rfl
theorem ld8 {σ : St} {id off : Nat} : aload Try.prog σ 8 (.pointer (some ⟨id, off, none⟩)) = (σ.row id).bind fun r => (cut r.1 off 4).map fun l => .agg l.toArray := by
  simp only [aload, ag8, sz8]; cases σ.row id <;> rfl
theorem st8 {σ : St} {id off : Nat} {x : Value} : astore Try.prog σ 8 (.pointer (some ⟨id, off, none⟩)) x = (σ.row id).bind fun r => stw σ id off 4 x r.1 r.2 := st_eq sz8
theorem sz9 : szOf Try.prog 9 = some 1 := by kernel_rfl
theorem ag9 : aggOf Try.prog 9 = some false := by kernel_rfl
theorem ld9 {σ : St} {id off : Nat} : aload Try.prog σ 9 (.pointer (some ⟨id, off, none⟩)) = (σ.row id).bind fun r => r.1[off]? := by
  simp only [aload, ag9]; cases σ.row id <;> rfl
theorem st9 {σ : St} {id off : Nat} {x : Value} : astore Try.prog σ 9 (.pointer (some ⟨id, off, none⟩)) x = (σ.row id).bind fun r => stw σ id off 1 x r.1 r.2 := st_eq sz9
theorem sz10 : szOf Try.prog 10 = some 1 := by kernel_rfl
theorem ag10 : aggOf Try.prog 10 = some false := by kernel_rfl
theorem ld10 {σ : St} {id off : Nat} : aload Try.prog σ 10 (.pointer (some ⟨id, off, none⟩)) = (σ.row id).bind fun r => r.1[off]? := by
  simp only [aload, ag10]; cases σ.row id <;> rfl
theorem st10 {σ : St} {id off : Nat} {x : Value} : astore Try.prog σ 10 (.pointer (some ⟨id, off, none⟩)) x = (σ.row id).bind fun r => stw σ id off 1 x r.1 r.2 := st_eq sz10
theorem sz11 : szOf Try.prog 11 = some 1 := by kernel_rfl
theorem ag11 : aggOf Try.prog 11 = some false := by kernel_rfl
theorem ld11 {σ : St} {id off : Nat} : aload Try.prog σ 11 (.pointer (some ⟨id, off, none⟩)) = (σ.row id).bind fun r => r.1[off]? := by
  simp only [aload, ag11]; cases σ.row id <;> rfl
theorem st11 {σ : St} {id off : Nat} {x : Value} : astore Try.prog σ 11 (.pointer (some ⟨id, off, none⟩)) x = (σ.row id).bind fun r => stw σ id off 1 x r.1 r.2 := st_eq sz11
theorem sz12 : szOf Try.prog 12 = some 1 := by kernel_rfl
theorem ag12 : aggOf Try.prog 12 = some false := by kernel_rfl
theorem ld12 {σ : St} {id off : Nat} : aload Try.prog σ 12 (.pointer (some ⟨id, off, none⟩)) = (σ.row id).bind fun r => r.1[off]? := by
  simp only [aload, ag12]; cases σ.row id <;> rfl
theorem st12 {σ : St} {id off : Nat} {x : Value} : astore Try.prog σ 12 (.pointer (some ⟨id, off, none⟩)) x = (σ.row id).bind fun r => stw σ id off 1 x r.1 r.2 := st_eq sz12
theorem sz13 : szOf Try.prog 13 = some 2 := by kernel_rfl
theorem ag13 : aggOf Try.prog 13 = some true := by kernel_rfl
theorem ld13 {σ : St} {id off : Nat} : aload Try.prog σ 13 (.pointer (some ⟨id, off, none⟩)) = (σ.row id).bind fun r => (cut r.1 off 2).map fun l => .agg l.toArray := by
  simp only [aload, ag13, sz13]; cases σ.row id <;> rfl
theorem st13 {σ : St} {id off : Nat} {x : Value} : astore Try.prog σ 13 (.pointer (some ⟨id, off, none⟩)) x = (σ.row id).bind fun r => stw σ id off 2 x r.1 r.2 := st_eq sz13
theorem sz14 : szOf Try.prog 14 = some 2 := by kernel_rfl
theorem ag14 : aggOf Try.prog 14 = some true := by kernel_rfl
theorem ld14 {σ : St} {id off : Nat} : aload Try.prog σ 14 (.pointer (some ⟨id, off, none⟩)) = (σ.row id).bind fun r => (cut r.1 off 2).map fun l => .agg l.toArray := by
  simp only [aload, ag14, sz14]; cases σ.row id <;> rfl
theorem st14 {σ : St} {id off : Nat} {x : Value} : astore Try.prog σ 14 (.pointer (some ⟨id, off, none⟩)) x = (σ.row id).bind fun r => stw σ id off 2 x r.1 r.2 := st_eq sz14
theorem sz15 : szOf Try.prog 15 = some 1 := by kernel_rfl
theorem ag15 : aggOf Try.prog 15 = some false := by kernel_rfl
theorem ld15 {σ : St} {id off : Nat} : aload Try.prog σ 15 (.pointer (some ⟨id, off, none⟩)) = (σ.row id).bind fun r => r.1[off]? := by
  simp only [aload, ag15]; cases σ.row id <;> rfl
theorem st15 {σ : St} {id off : Nat} {x : Value} : astore Try.prog σ 15 (.pointer (some ⟨id, off, none⟩)) x = (σ.row id).bind fun r => stw σ id off 1 x r.1 r.2 := st_eq sz15
theorem sz16 : szOf Try.prog 16 = some 1 := by kernel_rfl
theorem ag16 : aggOf Try.prog 16 = some false := by kernel_rfl
theorem ld16 {σ : St} {id off : Nat} : aload Try.prog σ 16 (.pointer (some ⟨id, off, none⟩)) = (σ.row id).bind fun r => r.1[off]? := by
  simp only [aload, ag16]; cases σ.row id <;> rfl
theorem st16 {σ : St} {id off : Nat} {x : Value} : astore Try.prog σ 16 (.pointer (some ⟨id, off, none⟩)) x = (σ.row id).bind fun r => stw σ id off 1 x r.1 r.2 := st_eq sz16
theorem sz17 : szOf Try.prog 17 = some 1 := by kernel_rfl
theorem ag17 : aggOf Try.prog 17 = some false := by kernel_rfl
theorem ld17 {σ : St} {id off : Nat} : aload Try.prog σ 17 (.pointer (some ⟨id, off, none⟩)) = (σ.row id).bind fun r => r.1[off]? := by
  simp only [aload, ag17]; cases σ.row id <;> rfl
theorem st17 {σ : St} {id off : Nat} {x : Value} : astore Try.prog σ 17 (.pointer (some ⟨id, off, none⟩)) x = (σ.row id).bind fun r => stw σ id off 1 x r.1 r.2 := st_eq sz17
theorem sz18 : szOf Try.prog 18 = some 1 := by kernel_rfl
theorem ag18 : aggOf Try.prog 18 = some true := by kernel_rfl
theorem ld18 {σ : St} {id off : Nat} : aload Try.prog σ 18 (.pointer (some ⟨id, off, none⟩)) = (σ.row id).bind fun r => (cut r.1 off 1).map fun l => .agg l.toArray := by
  simp only [aload, ag18, sz18]; cases σ.row id <;> rfl
theorem st18 {σ : St} {id off : Nat} {x : Value} : astore Try.prog σ 18 (.pointer (some ⟨id, off, none⟩)) x = (σ.row id).bind fun r => stw σ id off 1 x r.1 r.2 := st_eq sz18
theorem sz19 : szOf Try.prog 19 = some 1 := by kernel_rfl
theorem ag19 : aggOf Try.prog 19 = some true := by kernel_rfl
theorem ld19 {σ : St} {id off : Nat} : aload Try.prog σ 19 (.pointer (some ⟨id, off, none⟩)) = (σ.row id).bind fun r => (cut r.1 off 1).map fun l => .agg l.toArray := by
  simp only [aload, ag19, sz19]; cases σ.row id <;> rfl
theorem st19 {σ : St} {id off : Nat} {x : Value} : astore Try.prog σ 19 (.pointer (some ⟨id, off, none⟩)) x = (σ.row id).bind fun r => stw σ id off 1 x r.1 r.2 := st_eq sz19
theorem sz21 : szOf Try.prog 21 = some 1 := by kernel_rfl
theorem ag21 : aggOf Try.prog 21 = some false := by kernel_rfl
theorem ld21 {σ : St} {id off : Nat} : aload Try.prog σ 21 (.pointer (some ⟨id, off, none⟩)) = (σ.row id).bind fun r => r.1[off]? := by
  simp only [aload, ag21]; cases σ.row id <;> rfl
theorem st21 {σ : St} {id off : Nat} {x : Value} : astore Try.prog σ 21 (.pointer (some ⟨id, off, none⟩)) x = (σ.row id).bind fun r => stw σ id off 1 x r.1 r.2 := st_eq sz21
theorem sz22 : szOf Try.prog 22 = some 1 := by kernel_rfl
theorem ag22 : aggOf Try.prog 22 = some false := by kernel_rfl
theorem ld22 {σ : St} {id off : Nat} : aload Try.prog σ 22 (.pointer (some ⟨id, off, none⟩)) = (σ.row id).bind fun r => r.1[off]? := by
  simp only [aload, ag22]; cases σ.row id <;> rfl
theorem st22 {σ : St} {id off : Nat} {x : Value} : astore Try.prog σ 22 (.pointer (some ⟨id, off, none⟩)) x = (σ.row id).bind fun r => stw σ id off 1 x r.1 r.2 := st_eq sz22
theorem sz23 : szOf Try.prog 23 = some 1 := by kernel_rfl
theorem ag23 : aggOf Try.prog 23 = some false := by kernel_rfl
theorem ld23 {σ : St} {id off : Nat} : aload Try.prog σ 23 (.pointer (some ⟨id, off, none⟩)) = (σ.row id).bind fun r => r.1[off]? := by
  simp only [aload, ag23]; cases σ.row id <;> rfl
theorem st23 {σ : St} {id off : Nat} {x : Value} : astore Try.prog σ 23 (.pointer (some ⟨id, off, none⟩)) x = (σ.row id).bind fun r => stw σ id off 1 x r.1 r.2 := st_eq sz23
theorem sz24 : szOf Try.prog 24 = some 2 := by kernel_rfl
theorem ag24 : aggOf Try.prog 24 = some true := by kernel_rfl
theorem ld24 {σ : St} {id off : Nat} : aload Try.prog σ 24 (.pointer (some ⟨id, off, none⟩)) = (σ.row id).bind fun r => (cut r.1 off 2).map fun l => .agg l.toArray := by
  simp only [aload, ag24, sz24]; cases σ.row id <;> rfl
theorem st24 {σ : St} {id off : Nat} {x : Value} : astore Try.prog σ 24 (.pointer (some ⟨id, off, none⟩)) x = (σ.row id).bind fun r => stw σ id off 2 x r.1 r.2 := st_eq sz24
theorem sz25 : szOf Try.prog 25 = some 2 := by kernel_rfl
theorem ag25 : aggOf Try.prog 25 = some true := by kernel_rfl
theorem ld25 {σ : St} {id off : Nat} : aload Try.prog σ 25 (.pointer (some ⟨id, off, none⟩)) = (σ.row id).bind fun r => (cut r.1 off 2).map fun l => .agg l.toArray := by
  simp only [aload, ag25, sz25]; cases σ.row id <;> rfl
theorem st25 {σ : St} {id off : Nat} {x : Value} : astore Try.prog σ 25 (.pointer (some ⟨id, off, none⟩)) x = (σ.row id).bind fun r => stw σ id off 2 x r.1 r.2 := st_eq sz25
theorem sz26 : szOf Try.prog 26 = some 1 := by kernel_rfl
theorem ag26 : aggOf Try.prog 26 = some false := by kernel_rfl
theorem ld26 {σ : St} {id off : Nat} : aload Try.prog σ 26 (.pointer (some ⟨id, off, none⟩)) = (σ.row id).bind fun r => r.1[off]? := by
  simp only [aload, ag26]; cases σ.row id <;> rfl
theorem st26 {σ : St} {id off : Nat} {x : Value} : astore Try.prog σ 26 (.pointer (some ⟨id, off, none⟩)) x = (σ.row id).bind fun r => stw σ id off 1 x r.1 r.2 := st_eq sz26
theorem sz28 : szOf Try.prog 28 = some 1 := by kernel_rfl
theorem ag28 : aggOf Try.prog 28 = some false := by kernel_rfl
theorem ld28 {σ : St} {id off : Nat} : aload Try.prog σ 28 (.pointer (some ⟨id, off, none⟩)) = (σ.row id).bind fun r => r.1[off]? := by
  simp only [aload, ag28]; cases σ.row id <;> rfl
theorem st28 {σ : St} {id off : Nat} {x : Value} : astore Try.prog σ 28 (.pointer (some ⟨id, off, none⟩)) x = (σ.row id).bind fun r => stw σ id off 1 x r.1 r.2 := st_eq sz28
theorem sz29 : szOf Try.prog 29 = some 1 := by kernel_rfl
theorem ag29 : aggOf Try.prog 29 = some false := by kernel_rfl
theorem ld29 {σ : St} {id off : Nat} : aload Try.prog σ 29 (.pointer (some ⟨id, off, none⟩)) = (σ.row id).bind fun r => r.1[off]? := by
  simp only [aload, ag29]; cases σ.row id <;> rfl
theorem st29 {σ : St} {id off : Nat} {x : Value} : astore Try.prog σ 29 (.pointer (some ⟨id, off, none⟩)) x = (σ.row id).bind fun r => stw σ id off 1 x r.1 r.2 := st_eq sz29
theorem sz30 : szOf Try.prog 30 = some 1 := by kernel_rfl
theorem ag30 : aggOf Try.prog 30 = some false := by kernel_rfl
theorem ld30 {σ : St} {id off : Nat} : aload Try.prog σ 30 (.pointer (some ⟨id, off, none⟩)) = (σ.row id).bind fun r => r.1[off]? := by
  simp only [aload, ag30]; cases σ.row id <;> rfl
theorem st30 {σ : St} {id off : Nat} {x : Value} : astore Try.prog σ 30 (.pointer (some ⟨id, off, none⟩)) x = (σ.row id).bind fun r => stw σ id off 1 x r.1 r.2 := st_eq sz30
theorem sz31 : szOf Try.prog 31 = some 1 := by kernel_rfl
theorem ag31 : aggOf Try.prog 31 = some false := by kernel_rfl
theorem ld31 {σ : St} {id off : Nat} : aload Try.prog σ 31 (.pointer (some ⟨id, off, none⟩)) = (σ.row id).bind fun r => r.1[off]? := by
  simp only [aload, ag31]; cases σ.row id <;> rfl
theorem st31 {σ : St} {id off : Nat} {x : Value} : astore Try.prog σ 31 (.pointer (some ⟨id, off, none⟩)) x = (σ.row id).bind fun r => stw σ id off 1 x r.1 r.2 := st_eq sz31
theorem sz32 : szOf Try.prog 32 = some 1 := by kernel_rfl
theorem ag32 : aggOf Try.prog 32 = some false := by kernel_rfl
theorem ld32 {σ : St} {id off : Nat} : aload Try.prog σ 32 (.pointer (some ⟨id, off, none⟩)) = (σ.row id).bind fun r => r.1[off]? := by
  simp only [aload, ag32]; cases σ.row id <;> rfl
theorem st32 {σ : St} {id off : Nat} {x : Value} : astore Try.prog σ 32 (.pointer (some ⟨id, off, none⟩)) x = (σ.row id).bind fun r => stw σ id off 1 x r.1 r.2 := st_eq sz32
theorem sz33 : szOf Try.prog 33 = some 1 := by kernel_rfl
theorem ag33 : aggOf Try.prog 33 = some false := by kernel_rfl
theorem ld33 {σ : St} {id off : Nat} : aload Try.prog σ 33 (.pointer (some ⟨id, off, none⟩)) = (σ.row id).bind fun r => r.1[off]? := by
  simp only [aload, ag33]; cases σ.row id <;> rfl
theorem st33 {σ : St} {id off : Nat} {x : Value} : astore Try.prog σ 33 (.pointer (some ⟨id, off, none⟩)) x = (σ.row id).bind fun r => stw σ id off 1 x r.1 r.2 := st_eq sz33
theorem sz34 : szOf Try.prog 34 = some 1 := by kernel_rfl
theorem ag34 : aggOf Try.prog 34 = some false := by kernel_rfl
theorem ld34 {σ : St} {id off : Nat} : aload Try.prog σ 34 (.pointer (some ⟨id, off, none⟩)) = (σ.row id).bind fun r => r.1[off]? := by
  simp only [aload, ag34]; cases σ.row id <;> rfl
theorem st34 {σ : St} {id off : Nat} {x : Value} : astore Try.prog σ 34 (.pointer (some ⟨id, off, none⟩)) x = (σ.row id).bind fun r => stw σ id off 1 x r.1 r.2 := st_eq sz34
theorem sz35 : szOf Try.prog 35 = some 1 := by kernel_rfl
theorem ag35 : aggOf Try.prog 35 = some false := by kernel_rfl
theorem ld35 {σ : St} {id off : Nat} : aload Try.prog σ 35 (.pointer (some ⟨id, off, none⟩)) = (σ.row id).bind fun r => r.1[off]? := by
  simp only [aload, ag35]; cases σ.row id <;> rfl
theorem st35 {σ : St} {id off : Nat} {x : Value} : astore Try.prog σ 35 (.pointer (some ⟨id, off, none⟩)) x = (σ.row id).bind fun r => stw σ id off 1 x r.1 r.2 := st_eq sz35
theorem sz36 : szOf Try.prog 36 = some 1 := by kernel_rfl
theorem ag36 : aggOf Try.prog 36 = some false := by kernel_rfl
theorem ld36 {σ : St} {id off : Nat} : aload Try.prog σ 36 (.pointer (some ⟨id, off, none⟩)) = (σ.row id).bind fun r => r.1[off]? := by
  simp only [aload, ag36]; cases σ.row id <;> rfl
theorem st36 {σ : St} {id off : Nat} {x : Value} : astore Try.prog σ 36 (.pointer (some ⟨id, off, none⟩)) x = (σ.row id).bind fun r => stw σ id off 1 x r.1 r.2 := st_eq sz36
theorem sz37 : szOf Try.prog 37 = some 2 := by kernel_rfl
theorem ag37 : aggOf Try.prog 37 = some true := by kernel_rfl
theorem ld37 {σ : St} {id off : Nat} : aload Try.prog σ 37 (.pointer (some ⟨id, off, none⟩)) = (σ.row id).bind fun r => (cut r.1 off 2).map fun l => .agg l.toArray := by
  simp only [aload, ag37, sz37]; cases σ.row id <;> rfl
theorem st37 {σ : St} {id off : Nat} {x : Value} : astore Try.prog σ 37 (.pointer (some ⟨id, off, none⟩)) x = (σ.row id).bind fun r => stw σ id off 2 x r.1 r.2 := st_eq sz37
theorem sz38 : szOf Try.prog 38 = some 2 := by kernel_rfl
theorem ag38 : aggOf Try.prog 38 = some true := by kernel_rfl
theorem ld38 {σ : St} {id off : Nat} : aload Try.prog σ 38 (.pointer (some ⟨id, off, none⟩)) = (σ.row id).bind fun r => (cut r.1 off 2).map fun l => .agg l.toArray := by
  simp only [aload, ag38, sz38]; cases σ.row id <;> rfl
theorem st38 {σ : St} {id off : Nat} {x : Value} : astore Try.prog σ 38 (.pointer (some ⟨id, off, none⟩)) x = (σ.row id).bind fun r => stw σ id off 2 x r.1 r.2 := st_eq sz38
theorem sz39 : szOf Try.prog 39 = some 3 := by kernel_rfl
theorem ag39 : aggOf Try.prog 39 = some true := by kernel_rfl
theorem ld39 {σ : St} {id off : Nat} : aload Try.prog σ 39 (.pointer (some ⟨id, off, none⟩)) = (σ.row id).bind fun r => (cut r.1 off 3).map fun l => .agg l.toArray := by
  simp only [aload, ag39, sz39]; cases σ.row id <;> rfl
theorem st39 {σ : St} {id off : Nat} {x : Value} : astore Try.prog σ 39 (.pointer (some ⟨id, off, none⟩)) x = (σ.row id).bind fun r => stw σ id off 3 x r.1 r.2 := st_eq sz39
theorem sz40 : szOf Try.prog 40 = some 3 := by kernel_rfl
theorem ag40 : aggOf Try.prog 40 = some true := by kernel_rfl
theorem ld40 {σ : St} {id off : Nat} : aload Try.prog σ 40 (.pointer (some ⟨id, off, none⟩)) = (σ.row id).bind fun r => (cut r.1 off 3).map fun l => .agg l.toArray := by
  simp only [aload, ag40, sz40]; cases σ.row id <;> rfl
theorem st40 {σ : St} {id off : Nat} {x : Value} : astore Try.prog σ 40 (.pointer (some ⟨id, off, none⟩)) x = (σ.row id).bind fun r => stw σ id off 3 x r.1 r.2 := st_eq sz40
theorem sz41 : szOf Try.prog 41 = some 1 := by kernel_rfl
theorem ag41 : aggOf Try.prog 41 = some false := by kernel_rfl
theorem ld41 {σ : St} {id off : Nat} : aload Try.prog σ 41 (.pointer (some ⟨id, off, none⟩)) = (σ.row id).bind fun r => r.1[off]? := by
  simp only [aload, ag41]; cases σ.row id <;> rfl
theorem st41 {σ : St} {id off : Nat} {x : Value} : astore Try.prog σ 41 (.pointer (some ⟨id, off, none⟩)) x = (σ.row id).bind fun r => stw σ id off 1 x r.1 r.2 := st_eq sz41
theorem sz42 : szOf Try.prog 42 = some 1 := by kernel_rfl
theorem ag42 : aggOf Try.prog 42 = some false := by kernel_rfl
theorem ld42 {σ : St} {id off : Nat} : aload Try.prog σ 42 (.pointer (some ⟨id, off, none⟩)) = (σ.row id).bind fun r => r.1[off]? := by
  simp only [aload, ag42]; cases σ.row id <;> rfl
theorem st42 {σ : St} {id off : Nat} {x : Value} : astore Try.prog σ 42 (.pointer (some ⟨id, off, none⟩)) x = (σ.row id).bind fun r => stw σ id off 1 x r.1 r.2 := st_eq sz42
theorem sz43 : szOf Try.prog 43 = some 1 := by kernel_rfl
theorem ag43 : aggOf Try.prog 43 = some false := by kernel_rfl
theorem ld43 {σ : St} {id off : Nat} : aload Try.prog σ 43 (.pointer (some ⟨id, off, none⟩)) = (σ.row id).bind fun r => r.1[off]? := by
  simp only [aload, ag43]; cases σ.row id <;> rfl
theorem st43 {σ : St} {id off : Nat} {x : Value} : astore Try.prog σ 43 (.pointer (some ⟨id, off, none⟩)) x = (σ.row id).bind fun r => stw σ id off 1 x r.1 r.2 := st_eq sz43
theorem sz44 : szOf Try.prog 44 = some 1 := by kernel_rfl
theorem ag44 : aggOf Try.prog 44 = some false := by kernel_rfl
theorem ld44 {σ : St} {id off : Nat} : aload Try.prog σ 44 (.pointer (some ⟨id, off, none⟩)) = (σ.row id).bind fun r => r.1[off]? := by
  simp only [aload, ag44]; cases σ.row id <;> rfl
theorem st44 {σ : St} {id off : Nat} {x : Value} : astore Try.prog σ 44 (.pointer (some ⟨id, off, none⟩)) x = (σ.row id).bind fun r => stw σ id off 1 x r.1 r.2 := st_eq sz44
theorem sz45 : szOf Try.prog 45 = some 1 := by kernel_rfl
theorem ag45 : aggOf Try.prog 45 = some false := by kernel_rfl
theorem ld45 {σ : St} {id off : Nat} : aload Try.prog σ 45 (.pointer (some ⟨id, off, none⟩)) = (σ.row id).bind fun r => r.1[off]? := by
  simp only [aload, ag45]; cases σ.row id <;> rfl
theorem st45 {σ : St} {id off : Nat} {x : Value} : astore Try.prog σ 45 (.pointer (some ⟨id, off, none⟩)) x = (σ.row id).bind fun r => stw σ id off 1 x r.1 r.2 := st_eq sz45
theorem sz46 : szOf Try.prog 46 = some 1 := by kernel_rfl
theorem ag46 : aggOf Try.prog 46 = some false := by kernel_rfl
theorem ld46 {σ : St} {id off : Nat} : aload Try.prog σ 46 (.pointer (some ⟨id, off, none⟩)) = (σ.row id).bind fun r => r.1[off]? := by
  simp only [aload, ag46]; cases σ.row id <;> rfl
theorem st46 {σ : St} {id off : Nat} {x : Value} : astore Try.prog σ 46 (.pointer (some ⟨id, off, none⟩)) x = (σ.row id).bind fun r => stw σ id off 1 x r.1 r.2 := st_eq sz46
theorem sz47 : szOf Try.prog 47 = some 1 := by kernel_rfl
theorem ag47 : aggOf Try.prog 47 = some false := by kernel_rfl
theorem ld47 {σ : St} {id off : Nat} : aload Try.prog σ 47 (.pointer (some ⟨id, off, none⟩)) = (σ.row id).bind fun r => r.1[off]? := by
  simp only [aload, ag47]; cases σ.row id <;> rfl
theorem st47 {σ : St} {id off : Nat} {x : Value} : astore Try.prog σ 47 (.pointer (some ⟨id, off, none⟩)) x = (σ.row id).bind fun r => stw σ id off 1 x r.1 r.2 := st_eq sz47
theorem sz48 : szOf Try.prog 48 = some 1 := by kernel_rfl
theorem ag48 : aggOf Try.prog 48 = some false := by kernel_rfl
theorem ld48 {σ : St} {id off : Nat} : aload Try.prog σ 48 (.pointer (some ⟨id, off, none⟩)) = (σ.row id).bind fun r => r.1[off]? := by
  simp only [aload, ag48]; cases σ.row id <;> rfl
theorem st48 {σ : St} {id off : Nat} {x : Value} : astore Try.prog σ 48 (.pointer (some ⟨id, off, none⟩)) x = (σ.row id).bind fun r => stw σ id off 1 x r.1 r.2 := st_eq sz48
theorem sz49 : szOf Try.prog 49 = some 1 := by kernel_rfl
theorem ag49 : aggOf Try.prog 49 = some false := by kernel_rfl
theorem ld49 {σ : St} {id off : Nat} : aload Try.prog σ 49 (.pointer (some ⟨id, off, none⟩)) = (σ.row id).bind fun r => r.1[off]? := by
  simp only [aload, ag49]; cases σ.row id <;> rfl
theorem st49 {σ : St} {id off : Nat} {x : Value} : astore Try.prog σ 49 (.pointer (some ⟨id, off, none⟩)) x = (σ.row id).bind fun r => stw σ id off 1 x r.1 r.2 := st_eq sz49
theorem sz50 : szOf Try.prog 50 = some 1 := by kernel_rfl
theorem ag50 : aggOf Try.prog 50 = some false := by kernel_rfl
theorem ld50 {σ : St} {id off : Nat} : aload Try.prog σ 50 (.pointer (some ⟨id, off, none⟩)) = (σ.row id).bind fun r => r.1[off]? := by
  simp only [aload, ag50]; cases σ.row id <;> rfl
theorem st50 {σ : St} {id off : Nat} {x : Value} : astore Try.prog σ 50 (.pointer (some ⟨id, off, none⟩)) x = (σ.row id).bind fun r => stw σ id off 1 x r.1 r.2 := st_eq sz50
theorem sz51 : szOf Try.prog 51 = some 1 := by kernel_rfl
theorem ag51 : aggOf Try.prog 51 = some false := by kernel_rfl
theorem ld51 {σ : St} {id off : Nat} : aload Try.prog σ 51 (.pointer (some ⟨id, off, none⟩)) = (σ.row id).bind fun r => r.1[off]? := by
  simp only [aload, ag51]; cases σ.row id <;> rfl
theorem st51 {σ : St} {id off : Nat} {x : Value} : astore Try.prog σ 51 (.pointer (some ⟨id, off, none⟩)) x = (σ.row id).bind fun r => stw σ id off 1 x r.1 r.2 := st_eq sz51
theorem sz52 : szOf Try.prog 52 = some 1 := by kernel_rfl
theorem ag52 : aggOf Try.prog 52 = some false := by kernel_rfl
theorem ld52 {σ : St} {id off : Nat} : aload Try.prog σ 52 (.pointer (some ⟨id, off, none⟩)) = (σ.row id).bind fun r => r.1[off]? := by
  simp only [aload, ag52]; cases σ.row id <;> rfl
theorem st52 {σ : St} {id off : Nat} {x : Value} : astore Try.prog σ 52 (.pointer (some ⟨id, off, none⟩)) x = (σ.row id).bind fun r => stw σ id off 1 x r.1 r.2 := st_eq sz52
theorem sz53 : szOf Try.prog 53 = some 1 := by kernel_rfl
theorem ag53 : aggOf Try.prog 53 = some false := by kernel_rfl
theorem ld53 {σ : St} {id off : Nat} : aload Try.prog σ 53 (.pointer (some ⟨id, off, none⟩)) = (σ.row id).bind fun r => r.1[off]? := by
  simp only [aload, ag53]; cases σ.row id <;> rfl
theorem st53 {σ : St} {id off : Nat} {x : Value} : astore Try.prog σ 53 (.pointer (some ⟨id, off, none⟩)) x = (σ.row id).bind fun r => stw σ id off 1 x r.1 r.2 := st_eq sz53
theorem sz54 : szOf Try.prog 54 = some 1 := by kernel_rfl
theorem ag54 : aggOf Try.prog 54 = some false := by kernel_rfl
theorem ld54 {σ : St} {id off : Nat} : aload Try.prog σ 54 (.pointer (some ⟨id, off, none⟩)) = (σ.row id).bind fun r => r.1[off]? := by
  simp only [aload, ag54]; cases σ.row id <;> rfl
theorem st54 {σ : St} {id off : Nat} {x : Value} : astore Try.prog σ 54 (.pointer (some ⟨id, off, none⟩)) x = (σ.row id).bind fun r => stw σ id off 1 x r.1 r.2 := st_eq sz54
theorem sz55 : szOf Try.prog 55 = some 1 := by kernel_rfl
theorem ag55 : aggOf Try.prog 55 = some false := by kernel_rfl
theorem ld55 {σ : St} {id off : Nat} : aload Try.prog σ 55 (.pointer (some ⟨id, off, none⟩)) = (σ.row id).bind fun r => r.1[off]? := by
  simp only [aload, ag55]; cases σ.row id <;> rfl
theorem st55 {σ : St} {id off : Nat} {x : Value} : astore Try.prog σ 55 (.pointer (some ⟨id, off, none⟩)) x = (σ.row id).bind fun r => stw σ id off 1 x r.1 r.2 := st_eq sz55
theorem sz56 : szOf Try.prog 56 = some 1 := by kernel_rfl
theorem ag56 : aggOf Try.prog 56 = some false := by kernel_rfl
theorem ld56 {σ : St} {id off : Nat} : aload Try.prog σ 56 (.pointer (some ⟨id, off, none⟩)) = (σ.row id).bind fun r => r.1[off]? := by
  simp only [aload, ag56]; cases σ.row id <;> rfl
theorem st56 {σ : St} {id off : Nat} {x : Value} : astore Try.prog σ 56 (.pointer (some ⟨id, off, none⟩)) x = (σ.row id).bind fun r => stw σ id off 1 x r.1 r.2 := st_eq sz56
theorem sz57 : szOf Try.prog 57 = some 1 := by kernel_rfl
theorem ag57 : aggOf Try.prog 57 = some false := by kernel_rfl
theorem ld57 {σ : St} {id off : Nat} : aload Try.prog σ 57 (.pointer (some ⟨id, off, none⟩)) = (σ.row id).bind fun r => r.1[off]? := by
  simp only [aload, ag57]; cases σ.row id <;> rfl
theorem st57 {σ : St} {id off : Nat} {x : Value} : astore Try.prog σ 57 (.pointer (some ⟨id, off, none⟩)) x = (σ.row id).bind fun r => stw σ id off 1 x r.1 r.2 := st_eq sz57
theorem sz58 : szOf Try.prog 58 = some 1 := by kernel_rfl
theorem ag58 : aggOf Try.prog 58 = some false := by kernel_rfl
theorem ld58 {σ : St} {id off : Nat} : aload Try.prog σ 58 (.pointer (some ⟨id, off, none⟩)) = (σ.row id).bind fun r => r.1[off]? := by
  simp only [aload, ag58]; cases σ.row id <;> rfl
theorem st58 {σ : St} {id off : Nat} {x : Value} : astore Try.prog σ 58 (.pointer (some ⟨id, off, none⟩)) x = (σ.row id).bind fun r => stw σ id off 1 x r.1 r.2 := st_eq sz58
theorem sz59 : szOf Try.prog 59 = some 1 := by kernel_rfl
theorem ag59 : aggOf Try.prog 59 = some false := by kernel_rfl
theorem ld59 {σ : St} {id off : Nat} : aload Try.prog σ 59 (.pointer (some ⟨id, off, none⟩)) = (σ.row id).bind fun r => r.1[off]? := by
  simp only [aload, ag59]; cases σ.row id <;> rfl
theorem st59 {σ : St} {id off : Nat} {x : Value} : astore Try.prog σ 59 (.pointer (some ⟨id, off, none⟩)) x = (σ.row id).bind fun r => stw σ id off 1 x r.1 r.2 := st_eq sz59
theorem sz61 : szOf Try.prog 61 = some 1 := by kernel_rfl
theorem ag61 : aggOf Try.prog 61 = some false := by kernel_rfl
theorem ld61 {σ : St} {id off : Nat} : aload Try.prog σ 61 (.pointer (some ⟨id, off, none⟩)) = (σ.row id).bind fun r => r.1[off]? := by
  simp only [aload, ag61]; cases σ.row id <;> rfl
theorem st61 {σ : St} {id off : Nat} {x : Value} : astore Try.prog σ 61 (.pointer (some ⟨id, off, none⟩)) x = (σ.row id).bind fun r => stw σ id off 1 x r.1 r.2 := st_eq sz61
theorem sz62 : szOf Try.prog 62 = some 1 := by kernel_rfl
theorem ag62 : aggOf Try.prog 62 = some false := by kernel_rfl
theorem ld62 {σ : St} {id off : Nat} : aload Try.prog σ 62 (.pointer (some ⟨id, off, none⟩)) = (σ.row id).bind fun r => r.1[off]? := by
  simp only [aload, ag62]; cases σ.row id <;> rfl
theorem st62 {σ : St} {id off : Nat} {x : Value} : astore Try.prog σ 62 (.pointer (some ⟨id, off, none⟩)) x = (σ.row id).bind fun r => stw σ id off 1 x r.1 r.2 := st_eq sz62
theorem sz63 : szOf Try.prog 63 = some 1 := by kernel_rfl
theorem ag63 : aggOf Try.prog 63 = some false := by kernel_rfl
theorem ld63 {σ : St} {id off : Nat} : aload Try.prog σ 63 (.pointer (some ⟨id, off, none⟩)) = (σ.row id).bind fun r => r.1[off]? := by
  simp only [aload, ag63]; cases σ.row id <;> rfl
theorem st63 {σ : St} {id off : Nat} {x : Value} : astore Try.prog σ 63 (.pointer (some ⟨id, off, none⟩)) x = (σ.row id).bind fun r => stw σ id off 1 x r.1 r.2 := st_eq sz63
theorem sz64 : szOf Try.prog 64 = some 1 := by kernel_rfl
theorem ag64 : aggOf Try.prog 64 = some false := by kernel_rfl
theorem ld64 {σ : St} {id off : Nat} : aload Try.prog σ 64 (.pointer (some ⟨id, off, none⟩)) = (σ.row id).bind fun r => r.1[off]? := by
  simp only [aload, ag64]; cases σ.row id <;> rfl
theorem st64 {σ : St} {id off : Nat} {x : Value} : astore Try.prog σ 64 (.pointer (some ⟨id, off, none⟩)) x = (σ.row id).bind fun r => stw σ id off 1 x r.1 r.2 := st_eq sz64
theorem sz65 : szOf Try.prog 65 = some 1 := by kernel_rfl
theorem ag65 : aggOf Try.prog 65 = some false := by kernel_rfl
theorem ld65 {σ : St} {id off : Nat} : aload Try.prog σ 65 (.pointer (some ⟨id, off, none⟩)) = (σ.row id).bind fun r => r.1[off]? := by
  simp only [aload, ag65]; cases σ.row id <;> rfl
theorem st65 {σ : St} {id off : Nat} {x : Value} : astore Try.prog σ 65 (.pointer (some ⟨id, off, none⟩)) x = (σ.row id).bind fun r => stw σ id off 1 x r.1 r.2 := st_eq sz65
theorem sz66 : szOf Try.prog 66 = some 1 := by kernel_rfl
theorem ag66 : aggOf Try.prog 66 = some false := by kernel_rfl
theorem ld66 {σ : St} {id off : Nat} : aload Try.prog σ 66 (.pointer (some ⟨id, off, none⟩)) = (σ.row id).bind fun r => r.1[off]? := by
  simp only [aload, ag66]; cases σ.row id <;> rfl
theorem st66 {σ : St} {id off : Nat} {x : Value} : astore Try.prog σ 66 (.pointer (some ⟨id, off, none⟩)) x = (σ.row id).bind fun r => stw σ id off 1 x r.1 r.2 := st_eq sz66
theorem sz67 : szOf Try.prog 67 = some 1 := by kernel_rfl
theorem ag67 : aggOf Try.prog 67 = some false := by kernel_rfl
theorem ld67 {σ : St} {id off : Nat} : aload Try.prog σ 67 (.pointer (some ⟨id, off, none⟩)) = (σ.row id).bind fun r => r.1[off]? := by
  simp only [aload, ag67]; cases σ.row id <;> rfl
theorem st67 {σ : St} {id off : Nat} {x : Value} : astore Try.prog σ 67 (.pointer (some ⟨id, off, none⟩)) x = (σ.row id).bind fun r => stw σ id off 1 x r.1 r.2 := st_eq sz67
theorem sz68 : szOf Try.prog 68 = some 1 := by kernel_rfl
theorem ag68 : aggOf Try.prog 68 = some false := by kernel_rfl
theorem ld68 {σ : St} {id off : Nat} : aload Try.prog σ 68 (.pointer (some ⟨id, off, none⟩)) = (σ.row id).bind fun r => r.1[off]? := by
  simp only [aload, ag68]; cases σ.row id <;> rfl
theorem st68 {σ : St} {id off : Nat} {x : Value} : astore Try.prog σ 68 (.pointer (some ⟨id, off, none⟩)) x = (σ.row id).bind fun r => stw σ id off 1 x r.1 r.2 := st_eq sz68
theorem sz69 : szOf Try.prog 69 = some 1 := by kernel_rfl
theorem ag69 : aggOf Try.prog 69 = some false := by kernel_rfl
theorem ld69 {σ : St} {id off : Nat} : aload Try.prog σ 69 (.pointer (some ⟨id, off, none⟩)) = (σ.row id).bind fun r => r.1[off]? := by
  simp only [aload, ag69]; cases σ.row id <;> rfl
theorem st69 {σ : St} {id off : Nat} {x : Value} : astore Try.prog σ 69 (.pointer (some ⟨id, off, none⟩)) x = (σ.row id).bind fun r => stw σ id off 1 x r.1 r.2 := st_eq sz69
theorem sz70 : szOf Try.prog 70 = some 1 := by kernel_rfl
theorem ag70 : aggOf Try.prog 70 = some false := by kernel_rfl
theorem ld70 {σ : St} {id off : Nat} : aload Try.prog σ 70 (.pointer (some ⟨id, off, none⟩)) = (σ.row id).bind fun r => r.1[off]? := by
  simp only [aload, ag70]; cases σ.row id <;> rfl
theorem st70 {σ : St} {id off : Nat} {x : Value} : astore Try.prog σ 70 (.pointer (some ⟨id, off, none⟩)) x = (σ.row id).bind fun r => stw σ id off 1 x r.1 r.2 := st_eq sz70
theorem sz71 : szOf Try.prog 71 = some 1 := by kernel_rfl
theorem ag71 : aggOf Try.prog 71 = some false := by kernel_rfl
theorem ld71 {σ : St} {id off : Nat} : aload Try.prog σ 71 (.pointer (some ⟨id, off, none⟩)) = (σ.row id).bind fun r => r.1[off]? := by
  simp only [aload, ag71]; cases σ.row id <;> rfl
theorem st71 {σ : St} {id off : Nat} {x : Value} : astore Try.prog σ 71 (.pointer (some ⟨id, off, none⟩)) x = (σ.row id).bind fun r => stw σ id off 1 x r.1 r.2 := st_eq sz71
theorem sz73 : szOf Try.prog 73 = some 1 := by kernel_rfl
theorem ag73 : aggOf Try.prog 73 = some false := by kernel_rfl
theorem ld73 {σ : St} {id off : Nat} : aload Try.prog σ 73 (.pointer (some ⟨id, off, none⟩)) = (σ.row id).bind fun r => r.1[off]? := by
  simp only [aload, ag73]; cases σ.row id <;> rfl
theorem st73 {σ : St} {id off : Nat} {x : Value} : astore Try.prog σ 73 (.pointer (some ⟨id, off, none⟩)) x = (σ.row id).bind fun r => stw σ id off 1 x r.1 r.2 := st_eq sz73
theorem sz74 : szOf Try.prog 74 = some 1 := by kernel_rfl
theorem ag74 : aggOf Try.prog 74 = some false := by kernel_rfl
theorem ld74 {σ : St} {id off : Nat} : aload Try.prog σ 74 (.pointer (some ⟨id, off, none⟩)) = (σ.row id).bind fun r => r.1[off]? := by
  simp only [aload, ag74]; cases σ.row id <;> rfl
theorem st74 {σ : St} {id off : Nat} {x : Value} : astore Try.prog σ 74 (.pointer (some ⟨id, off, none⟩)) x = (σ.row id).bind fun r => stw σ id off 1 x r.1 r.2 := st_eq sz74
theorem sz75 : szOf Try.prog 75 = some 1 := by kernel_rfl
theorem ag75 : aggOf Try.prog 75 = some false := by kernel_rfl
theorem ld75 {σ : St} {id off : Nat} : aload Try.prog σ 75 (.pointer (some ⟨id, off, none⟩)) = (σ.row id).bind fun r => r.1[off]? := by
  simp only [aload, ag75]; cases σ.row id <;> rfl
theorem st75 {σ : St} {id off : Nat} {x : Value} : astore Try.prog σ 75 (.pointer (some ⟨id, off, none⟩)) x = (σ.row id).bind fun r => stw σ id off 1 x r.1 r.2 := st_eq sz75
theorem sz76 : szOf Try.prog 76 = some 1 := by kernel_rfl
theorem ag76 : aggOf Try.prog 76 = some false := by kernel_rfl
theorem ld76 {σ : St} {id off : Nat} : aload Try.prog σ 76 (.pointer (some ⟨id, off, none⟩)) = (σ.row id).bind fun r => r.1[off]? := by
  simp only [aload, ag76]; cases σ.row id <;> rfl
theorem st76 {σ : St} {id off : Nat} {x : Value} : astore Try.prog σ 76 (.pointer (some ⟨id, off, none⟩)) x = (σ.row id).bind fun r => stw σ id off 1 x r.1 r.2 := st_eq sz76
theorem sz77 : szOf Try.prog 77 = some 1 := by kernel_rfl
theorem ag77 : aggOf Try.prog 77 = some true := by kernel_rfl
theorem ld77 {σ : St} {id off : Nat} : aload Try.prog σ 77 (.pointer (some ⟨id, off, none⟩)) = (σ.row id).bind fun r => (cut r.1 off 1).map fun l => .agg l.toArray := by
  simp only [aload, ag77, sz77]; cases σ.row id <;> rfl
theorem st77 {σ : St} {id off : Nat} {x : Value} : astore Try.prog σ 77 (.pointer (some ⟨id, off, none⟩)) x = (σ.row id).bind fun r => stw σ id off 1 x r.1 r.2 := st_eq sz77
theorem sz78 : szOf Try.prog 78 = some 1 := by kernel_rfl
theorem ag78 : aggOf Try.prog 78 = some true := by kernel_rfl
theorem ld78 {σ : St} {id off : Nat} : aload Try.prog σ 78 (.pointer (some ⟨id, off, none⟩)) = (σ.row id).bind fun r => (cut r.1 off 1).map fun l => .agg l.toArray := by
  simp only [aload, ag78, sz78]; cases σ.row id <;> rfl
theorem st78 {σ : St} {id off : Nat} {x : Value} : astore Try.prog σ 78 (.pointer (some ⟨id, off, none⟩)) x = (σ.row id).bind fun r => stw σ id off 1 x r.1 r.2 := st_eq sz78
theorem sz79 : szOf Try.prog 79 = some 1 := by kernel_rfl
theorem ag79 : aggOf Try.prog 79 = some false := by kernel_rfl
theorem ld79 {σ : St} {id off : Nat} : aload Try.prog σ 79 (.pointer (some ⟨id, off, none⟩)) = (σ.row id).bind fun r => r.1[off]? := by
  simp only [aload, ag79]; cases σ.row id <;> rfl
theorem st79 {σ : St} {id off : Nat} {x : Value} : astore Try.prog σ 79 (.pointer (some ⟨id, off, none⟩)) x = (σ.row id).bind fun r => stw σ id off 1 x r.1 r.2 := st_eq sz79
theorem sz80 : szOf Try.prog 80 = some 1 := by kernel_rfl
theorem ag80 : aggOf Try.prog 80 = some false := by kernel_rfl
theorem ld80 {σ : St} {id off : Nat} : aload Try.prog σ 80 (.pointer (some ⟨id, off, none⟩)) = (σ.row id).bind fun r => r.1[off]? := by
  simp only [aload, ag80]; cases σ.row id <;> rfl
theorem st80 {σ : St} {id off : Nat} {x : Value} : astore Try.prog σ 80 (.pointer (some ⟨id, off, none⟩)) x = (σ.row id).bind fun r => stw σ id off 1 x r.1 r.2 := st_eq sz80
theorem sz81 : szOf Try.prog 81 = some 3 := by kernel_rfl
theorem ag81 : aggOf Try.prog 81 = some true := by kernel_rfl
theorem ld81 {σ : St} {id off : Nat} : aload Try.prog σ 81 (.pointer (some ⟨id, off, none⟩)) = (σ.row id).bind fun r => (cut r.1 off 3).map fun l => .agg l.toArray := by
  simp only [aload, ag81, sz81]; cases σ.row id <;> rfl
theorem st81 {σ : St} {id off : Nat} {x : Value} : astore Try.prog σ 81 (.pointer (some ⟨id, off, none⟩)) x = (σ.row id).bind fun r => stw σ id off 3 x r.1 r.2 := st_eq sz81
theorem sz82 : szOf Try.prog 82 = some 1 := by kernel_rfl
theorem ag82 : aggOf Try.prog 82 = some false := by kernel_rfl
theorem ld82 {σ : St} {id off : Nat} : aload Try.prog σ 82 (.pointer (some ⟨id, off, none⟩)) = (σ.row id).bind fun r => r.1[off]? := by
  simp only [aload, ag82]; cases σ.row id <;> rfl
theorem st82 {σ : St} {id off : Nat} {x : Value} : astore Try.prog σ 82 (.pointer (some ⟨id, off, none⟩)) x = (σ.row id).bind fun r => stw σ id off 1 x r.1 r.2 := st_eq sz82
theorem sz83 : szOf Try.prog 83 = some 1 := by kernel_rfl
theorem ag83 : aggOf Try.prog 83 = some false := by kernel_rfl
theorem ld83 {σ : St} {id off : Nat} : aload Try.prog σ 83 (.pointer (some ⟨id, off, none⟩)) = (σ.row id).bind fun r => r.1[off]? := by
  simp only [aload, ag83]; cases σ.row id <;> rfl
theorem st83 {σ : St} {id off : Nat} {x : Value} : astore Try.prog σ 83 (.pointer (some ⟨id, off, none⟩)) x = (σ.row id).bind fun r => stw σ id off 1 x r.1 r.2 := st_eq sz83
theorem sz84 : szOf Try.prog 84 = some 2 := by kernel_rfl
theorem ag84 : aggOf Try.prog 84 = some true := by kernel_rfl
theorem ld84 {σ : St} {id off : Nat} : aload Try.prog σ 84 (.pointer (some ⟨id, off, none⟩)) = (σ.row id).bind fun r => (cut r.1 off 2).map fun l => .agg l.toArray := by
  simp only [aload, ag84, sz84]; cases σ.row id <;> rfl
theorem st84 {σ : St} {id off : Nat} {x : Value} : astore Try.prog σ 84 (.pointer (some ⟨id, off, none⟩)) x = (σ.row id).bind fun r => stw σ id off 2 x r.1 r.2 := st_eq sz84
theorem sz85 : szOf Try.prog 85 = some 2 := by kernel_rfl
theorem ag85 : aggOf Try.prog 85 = some true := by kernel_rfl
theorem ld85 {σ : St} {id off : Nat} : aload Try.prog σ 85 (.pointer (some ⟨id, off, none⟩)) = (σ.row id).bind fun r => (cut r.1 off 2).map fun l => .agg l.toArray := by
  simp only [aload, ag85, sz85]; cases σ.row id <;> rfl
theorem st85 {σ : St} {id off : Nat} {x : Value} : astore Try.prog σ 85 (.pointer (some ⟨id, off, none⟩)) x = (σ.row id).bind fun r => stw σ id off 2 x r.1 r.2 := st_eq sz85
theorem sz86 : szOf Try.prog 86 = some 1 := by kernel_rfl
theorem ag86 : aggOf Try.prog 86 = some false := by kernel_rfl
theorem ld86 {σ : St} {id off : Nat} : aload Try.prog σ 86 (.pointer (some ⟨id, off, none⟩)) = (σ.row id).bind fun r => r.1[off]? := by
  simp only [aload, ag86]; cases σ.row id <;> rfl
theorem st86 {σ : St} {id off : Nat} {x : Value} : astore Try.prog σ 86 (.pointer (some ⟨id, off, none⟩)) x = (σ.row id).bind fun r => stw σ id off 1 x r.1 r.2 := st_eq sz86
theorem sz87 : szOf Try.prog 87 = some 4 := by kernel_rfl
theorem ag87 : aggOf Try.prog 87 = some true := by kernel_rfl
theorem ld87 {σ : St} {id off : Nat} : aload Try.prog σ 87 (.pointer (some ⟨id, off, none⟩)) = (σ.row id).bind fun r => (cut r.1 off 4).map fun l => .agg l.toArray := by
  simp only [aload, ag87, sz87]; cases σ.row id <;> rfl
theorem st87 {σ : St} {id off : Nat} {x : Value} : astore Try.prog σ 87 (.pointer (some ⟨id, off, none⟩)) x = (σ.row id).bind fun r => stw σ id off 4 x r.1 r.2 := st_eq sz87
theorem sz88 : szOf Try.prog 88 = some 4 := by kernel_rfl
theorem ag88 : aggOf Try.prog 88 = some true := by kernel_rfl
theorem ld88 {σ : St} {id off : Nat} : aload Try.prog σ 88 (.pointer (some ⟨id, off, none⟩)) = (σ.row id).bind fun r => (cut r.1 off 4).map fun l => .agg l.toArray := by
  simp only [aload, ag88, sz88]; cases σ.row id <;> rfl
theorem st88 {σ : St} {id off : Nat} {x : Value} : astore Try.prog σ 88 (.pointer (some ⟨id, off, none⟩)) x = (σ.row id).bind fun r => stw σ id off 4 x r.1 r.2 := st_eq sz88
theorem sz89 : szOf Try.prog 89 = some 0 := by kernel_rfl
theorem ag89 : aggOf Try.prog 89 = some true := by kernel_rfl
theorem ld89 {σ : St} {id off : Nat} : aload Try.prog σ 89 (.pointer (some ⟨id, off, none⟩)) = (σ.row id).bind fun r => (cut r.1 off 0).map fun l => .agg l.toArray := by
  simp only [aload, ag89, sz89]; cases σ.row id <;> rfl
theorem st89 {σ : St} {id off : Nat} {x : Value} : astore Try.prog σ 89 (.pointer (some ⟨id, off, none⟩)) x = (σ.row id).bind fun r => stw σ id off 0 x r.1 r.2 := st_eq sz89
theorem sz90 : szOf Try.prog 90 = some 0 := by kernel_rfl
theorem ag90 : aggOf Try.prog 90 = some true := by kernel_rfl
theorem ld90 {σ : St} {id off : Nat} : aload Try.prog σ 90 (.pointer (some ⟨id, off, none⟩)) = (σ.row id).bind fun r => (cut r.1 off 0).map fun l => .agg l.toArray := by
  simp only [aload, ag90, sz90]; cases σ.row id <;> rfl
theorem st90 {σ : St} {id off : Nat} {x : Value} : astore Try.prog σ 90 (.pointer (some ⟨id, off, none⟩)) x = (σ.row id).bind fun r => stw σ id off 0 x r.1 r.2 := st_eq sz90
theorem sz91 : szOf Try.prog 91 = some 0 := by kernel_rfl
theorem ag91 : aggOf Try.prog 91 = some true := by kernel_rfl
theorem ld91 {σ : St} {id off : Nat} : aload Try.prog σ 91 (.pointer (some ⟨id, off, none⟩)) = (σ.row id).bind fun r => (cut r.1 off 0).map fun l => .agg l.toArray := by
  simp only [aload, ag91, sz91]; cases σ.row id <;> rfl
theorem st91 {σ : St} {id off : Nat} {x : Value} : astore Try.prog σ 91 (.pointer (some ⟨id, off, none⟩)) x = (σ.row id).bind fun r => stw σ id off 0 x r.1 r.2 := st_eq sz91
theorem sz92 : szOf Try.prog 92 = some 1 := by kernel_rfl
theorem ag92 : aggOf Try.prog 92 = some false := by kernel_rfl
theorem ld92 {σ : St} {id off : Nat} : aload Try.prog σ 92 (.pointer (some ⟨id, off, none⟩)) = (σ.row id).bind fun r => r.1[off]? := by
  simp only [aload, ag92]; cases σ.row id <;> rfl
theorem st92 {σ : St} {id off : Nat} {x : Value} : astore Try.prog σ 92 (.pointer (some ⟨id, off, none⟩)) x = (σ.row id).bind fun r => stw σ id off 1 x r.1 r.2 := st_eq sz92
theorem sz93 : szOf Try.prog 93 = some 1 := by kernel_rfl
theorem ag93 : aggOf Try.prog 93 = some false := by kernel_rfl
theorem ld93 {σ : St} {id off : Nat} : aload Try.prog σ 93 (.pointer (some ⟨id, off, none⟩)) = (σ.row id).bind fun r => r.1[off]? := by
  simp only [aload, ag93]; cases σ.row id <;> rfl
theorem st93 {σ : St} {id off : Nat} {x : Value} : astore Try.prog σ 93 (.pointer (some ⟨id, off, none⟩)) x = (σ.row id).bind fun r => stw σ id off 1 x r.1 r.2 := st_eq sz93
theorem sz94 : szOf Try.prog 94 = some 1 := by kernel_rfl
theorem ag94 : aggOf Try.prog 94 = some false := by kernel_rfl
theorem ld94 {σ : St} {id off : Nat} : aload Try.prog σ 94 (.pointer (some ⟨id, off, none⟩)) = (σ.row id).bind fun r => r.1[off]? := by
  simp only [aload, ag94]; cases σ.row id <;> rfl
theorem st94 {σ : St} {id off : Nat} {x : Value} : astore Try.prog σ 94 (.pointer (some ⟨id, off, none⟩)) x = (σ.row id).bind fun r => stw σ id off 1 x r.1 r.2 := st_eq sz94
theorem sz95 : szOf Try.prog 95 = some 1 := by kernel_rfl
theorem ag95 : aggOf Try.prog 95 = some false := by kernel_rfl
theorem ld95 {σ : St} {id off : Nat} : aload Try.prog σ 95 (.pointer (some ⟨id, off, none⟩)) = (σ.row id).bind fun r => r.1[off]? := by
  simp only [aload, ag95]; cases σ.row id <;> rfl
theorem st95 {σ : St} {id off : Nat} {x : Value} : astore Try.prog σ 95 (.pointer (some ⟨id, off, none⟩)) x = (σ.row id).bind fun r => stw σ id off 1 x r.1 r.2 := st_eq sz95
theorem sz96 : szOf Try.prog 96 = some 1 := by kernel_rfl
theorem ag96 : aggOf Try.prog 96 = some false := by kernel_rfl
theorem ld96 {σ : St} {id off : Nat} : aload Try.prog σ 96 (.pointer (some ⟨id, off, none⟩)) = (σ.row id).bind fun r => r.1[off]? := by
  simp only [aload, ag96]; cases σ.row id <;> rfl
theorem st96 {σ : St} {id off : Nat} {x : Value} : astore Try.prog σ 96 (.pointer (some ⟨id, off, none⟩)) x = (σ.row id).bind fun r => stw σ id off 1 x r.1 r.2 := st_eq sz96
theorem sz97 : szOf Try.prog 97 = some 1 := by kernel_rfl
theorem ag97 : aggOf Try.prog 97 = some false := by kernel_rfl
theorem ld97 {σ : St} {id off : Nat} : aload Try.prog σ 97 (.pointer (some ⟨id, off, none⟩)) = (σ.row id).bind fun r => r.1[off]? := by
  simp only [aload, ag97]; cases σ.row id <;> rfl
theorem st97 {σ : St} {id off : Nat} {x : Value} : astore Try.prog σ 97 (.pointer (some ⟨id, off, none⟩)) x = (σ.row id).bind fun r => stw σ id off 1 x r.1 r.2 := st_eq sz97
theorem sz98 : szOf Try.prog 98 = some 1 := by kernel_rfl
theorem ag98 : aggOf Try.prog 98 = some false := by kernel_rfl
theorem ld98 {σ : St} {id off : Nat} : aload Try.prog σ 98 (.pointer (some ⟨id, off, none⟩)) = (σ.row id).bind fun r => r.1[off]? := by
  simp only [aload, ag98]; cases σ.row id <;> rfl
theorem st98 {σ : St} {id off : Nat} {x : Value} : astore Try.prog σ 98 (.pointer (some ⟨id, off, none⟩)) x = (σ.row id).bind fun r => stw σ id off 1 x r.1 r.2 := st_eq sz98
theorem sz99 : szOf Try.prog 99 = some 1 := by kernel_rfl
theorem ag99 : aggOf Try.prog 99 = some false := by kernel_rfl
theorem ld99 {σ : St} {id off : Nat} : aload Try.prog σ 99 (.pointer (some ⟨id, off, none⟩)) = (σ.row id).bind fun r => r.1[off]? := by
  simp only [aload, ag99]; cases σ.row id <;> rfl
theorem st99 {σ : St} {id off : Nat} {x : Value} : astore Try.prog σ 99 (.pointer (some ⟨id, off, none⟩)) x = (σ.row id).bind fun r => stw σ id off 1 x r.1 r.2 := st_eq sz99
theorem sz100 : szOf Try.prog 100 = some 11 := by kernel_rfl
theorem ag100 : aggOf Try.prog 100 = some true := by kernel_rfl
theorem ld100 {σ : St} {id off : Nat} : aload Try.prog σ 100 (.pointer (some ⟨id, off, none⟩)) = (σ.row id).bind fun r => (cut r.1 off 11).map fun l => .agg l.toArray := by
  simp only [aload, ag100, sz100]; cases σ.row id <;> rfl
theorem st100 {σ : St} {id off : Nat} {x : Value} : astore Try.prog σ 100 (.pointer (some ⟨id, off, none⟩)) x = (σ.row id).bind fun r => stw σ id off 11 x r.1 r.2 := st_eq sz100
theorem sz101 : szOf Try.prog 101 = some 11 := by kernel_rfl
theorem ag101 : aggOf Try.prog 101 = some true := by kernel_rfl
theorem ld101 {σ : St} {id off : Nat} : aload Try.prog σ 101 (.pointer (some ⟨id, off, none⟩)) = (σ.row id).bind fun r => (cut r.1 off 11).map fun l => .agg l.toArray := by
  simp only [aload, ag101, sz101]; cases σ.row id <;> rfl
theorem st101 {σ : St} {id off : Nat} {x : Value} : astore Try.prog σ 101 (.pointer (some ⟨id, off, none⟩)) x = (σ.row id).bind fun r => stw σ id off 11 x r.1 r.2 := st_eq sz101
theorem al2 {id : Nat} : vAlloc Try.prog 2 id = some (.pointer (some ⟨id, 0, none⟩), .cells [.int .i64 0] boxMeta) := by kernel_rfl
theorem if2 : infoOf Try.prog 2 = some (1, 8, .int .i64 0) := by kernel_rfl
theorem al3 {id : Nat} : vAlloc Try.prog 3 id = some (.pointer (some ⟨id, 0, none⟩), .cells [.int .i64 0] boxMeta) := by kernel_rfl
theorem if3 : infoOf Try.prog 3 = some (1, 8, .int .i64 0) := by kernel_rfl
theorem al4 {id : Nat} : vAlloc Try.prog 4 id = some (.pointer (some ⟨id, 0, none⟩), .cells [.bool false] boxMeta) := by kernel_rfl
theorem if4 : infoOf Try.prog 4 = some (1, 1, .bool false) := by kernel_rfl
theorem al5 {id : Nat} : vAlloc Try.prog 5 id = some (.pointer (some ⟨id, 0, none⟩), .cells [.int .u8 0] boxMeta) := by kernel_rfl
theorem if5 : infoOf Try.prog 5 = some (1, 1, .int .u8 0) := by kernel_rfl
theorem al6 {id : Nat} : vAlloc Try.prog 6 id = some (.pointer (some ⟨id, 0, none⟩), .cells [.int .u8 0] boxMeta) := by kernel_rfl
theorem if6 : infoOf Try.prog 6 = some (1, 1, .int .u8 0) := by kernel_rfl
theorem fa7_0 {id off : Nat} : afieldAddr Try.prog 7 (.pointer (some ⟨id, off, none⟩)) 0 = some (.pointer (some ⟨id, off, none⟩)) := by rw [fa (n := 1) Try.underlying7 rfl sz2 (by decide)]; rfl
theorem fa7_1 {id off : Nat} : afieldAddr Try.prog 7 (.pointer (some ⟨id, off, none⟩)) 1 = some (.pointer (some ⟨id, off + 1, none⟩)) := by rw [fa (n := 1) Try.underlying7 rfl sz3 (by decide)]; rfl
theorem fa7_2 {id off : Nat} : afieldAddr Try.prog 7 (.pointer (some ⟨id, off, none⟩)) 2 = some (.pointer (some ⟨id, off + 2, none⟩)) := by rw [fa (n := 1) Try.underlying7 rfl sz4 (by decide)]; rfl
theorem fa7_3 {id off : Nat} : afieldAddr Try.prog 7 (.pointer (some ⟨id, off, none⟩)) 3 = some (.pointer (some ⟨id, off + 3, none⟩)) := by rw [fa (n := 1) Try.underlying7 rfl sz6 (by decide)]; rfl
theorem al7 {id : Nat} : vAlloc Try.prog 7 id = some (.pointer (some ⟨id, 0, none⟩), .cells [.int .i64 0, .int .i64 0, .bool false, .int .u8 0] boxMeta) := by kernel_rfl
theorem if7 : infoOf Try.prog 7 = some (4, 24, .agg #[.int .i64 0, .int .i64 0, .bool false, .int .u8 0]) := by kernel_rfl
theorem fa8_0 {id off : Nat} : afieldAddr Try.prog 8 (.pointer (some ⟨id, off, none⟩)) 0 = some (.pointer (some ⟨id, off, none⟩)) := by rw [fa (n := 1) Try.underlying8 rfl sz2 (by decide)]; rfl
theorem fa8_1 {id off : Nat} : afieldAddr Try.prog 8 (.pointer (some ⟨id, off, none⟩)) 1 = some (.pointer (some ⟨id, off + 1, none⟩)) := by rw [fa (n := 1) Try.underlying8 rfl sz3 (by decide)]; rfl
theorem fa8_2 {id off : Nat} : afieldAddr Try.prog 8 (.pointer (some ⟨id, off, none⟩)) 2 = some (.pointer (some ⟨id, off + 2, none⟩)) := by rw [fa (n := 1) Try.underlying8 rfl sz4 (by decide)]; rfl
theorem fa8_3 {id off : Nat} : afieldAddr Try.prog 8 (.pointer (some ⟨id, off, none⟩)) 3 = some (.pointer (some ⟨id, off + 3, none⟩)) := by rw [fa (n := 1) Try.underlying8 rfl sz6 (by decide)]; rfl
theorem al8 {id : Nat} : vAlloc Try.prog 8 id = some (.pointer (some ⟨id, 0, none⟩), .cells [.int .i64 0, .int .i64 0, .bool false, .int .u8 0] boxMeta) := by kernel_rfl
theorem if8 : infoOf Try.prog 8 = some (4, 24, .agg #[.int .i64 0, .int .i64 0, .bool false, .int .u8 0]) := by kernel_rfl
theorem al9 {id : Nat} : vAlloc Try.prog 9 id = some (.pointer (some ⟨id, 0, none⟩), .cells [.string ⟨#[]⟩] boxMeta) := by kernel_rfl
theorem if9 : infoOf Try.prog 9 = some (1, 16, .string ⟨#[]⟩) := by kernel_rfl
theorem al10 {id : Nat} : vAlloc Try.prog 10 id = some (.pointer (some ⟨id, 0, none⟩), .cells [.string ⟨#[]⟩] boxMeta) := by kernel_rfl
theorem if10 : infoOf Try.prog 10 = some (1, 16, .string ⟨#[]⟩) := by kernel_rfl
theorem al11 {id : Nat} : vAlloc Try.prog 11 id = some (.pointer (some ⟨id, 0, none⟩), .cells [.string ⟨#[]⟩] boxMeta) := by kernel_rfl
theorem if11 : infoOf Try.prog 11 = some (1, 16, .string ⟨#[]⟩) := by kernel_rfl
theorem al12 {id : Nat} : vAlloc Try.prog 12 id = some (.pointer (some ⟨id, 0, none⟩), .cells [.int .u64 0] boxMeta) := by kernel_rfl
theorem if12 : infoOf Try.prog 12 = some (1, 8, .int .u64 0) := by kernel_rfl
theorem fa13_0 {id off : Nat} : afieldAddr Try.prog 13 (.pointer (some ⟨id, off, none⟩)) 0 = some (.pointer (some ⟨id, off, none⟩)) := by rw [fa (n := 1) Try.underlying13 rfl sz9 (by decide)]; rfl
theorem fa13_1 {id off : Nat} : afieldAddr Try.prog 13 (.pointer (some ⟨id, off, none⟩)) 1 = some (.pointer (some ⟨id, off + 1, none⟩)) := by rw [fa (n := 1) Try.underlying13 rfl sz12 (by decide)]; rfl
theorem al13 {id : Nat} : vAlloc Try.prog 13 id = some (.pointer (some ⟨id, 0, none⟩), .cells [.string ⟨#[]⟩, .int .u64 0] boxMeta) := by kernel_rfl
theorem if13 : infoOf Try.prog 13 = some (2, 24, .agg #[.string ⟨#[]⟩, .int .u64 0]) := by kernel_rfl
theorem fa14_0 {id off : Nat} : afieldAddr Try.prog 14 (.pointer (some ⟨id, off, none⟩)) 0 = some (.pointer (some ⟨id, off, none⟩)) := by rw [fa (n := 1) Try.underlying14 rfl sz9 (by decide)]; rfl
theorem fa14_1 {id off : Nat} : afieldAddr Try.prog 14 (.pointer (some ⟨id, off, none⟩)) 1 = some (.pointer (some ⟨id, off + 1, none⟩)) := by rw [fa (n := 1) Try.underlying14 rfl sz12 (by decide)]; rfl
theorem al14 {id : Nat} : vAlloc Try.prog 14 id = some (.pointer (some ⟨id, 0, none⟩), .cells [.string ⟨#[]⟩, .int .u64 0] boxMeta) := by kernel_rfl
theorem if14 : infoOf Try.prog 14 = some (2, 24, .agg #[.string ⟨#[]⟩, .int .u64 0]) := by kernel_rfl
theorem al15 {id : Nat} : vAlloc Try.prog 15 id = some (.pointer (some ⟨id, 0, none⟩), .cells [.pointer none] boxMeta) := by kernel_rfl
theorem if15 : infoOf Try.prog 15 = some (1, 8, .pointer none) := by kernel_rfl
theorem al16 {id : Nat} : vAlloc Try.prog 16 id = some (.pointer (some ⟨id, 0, none⟩), .cells [.pointer none] boxMeta) := by kernel_rfl
theorem if16 : infoOf Try.prog 16 = some (1, 8, .pointer none) := by kernel_rfl
theorem al17 {id : Nat} : vAlloc Try.prog 17 id = some (.pointer (some ⟨id, 0, none⟩), .cells [.pointer none] boxMeta) := by kernel_rfl
theorem if17 : infoOf Try.prog 17 = some (1, 8, .pointer none) := by kernel_rfl
theorem fa18_0 {id off : Nat} : afieldAddr Try.prog 18 (.pointer (some ⟨id, off, none⟩)) 0 = some (.pointer (some ⟨id, off, none⟩)) := by rw [fa (n := 1) Try.underlying18 rfl sz17 (by decide)]; rfl
theorem al18 {id : Nat} : vAlloc Try.prog 18 id = some (.pointer (some ⟨id, 0, none⟩), .cells [.pointer none] boxMeta) := by kernel_rfl
theorem if18 : infoOf Try.prog 18 = some (1, 8, .agg #[.pointer none]) := by kernel_rfl
theorem fa19_0 {id off : Nat} : afieldAddr Try.prog 19 (.pointer (some ⟨id, off, none⟩)) 0 = some (.pointer (some ⟨id, off, none⟩)) := by rw [fa (n := 1) Try.underlying19 rfl sz17 (by decide)]; rfl
theorem al19 {id : Nat} : vAlloc Try.prog 19 id = some (.pointer (some ⟨id, 0, none⟩), .cells [.pointer none] boxMeta) := by kernel_rfl
theorem if19 : infoOf Try.prog 19 = some (1, 8, .agg #[.pointer none]) := by kernel_rfl
theorem al21 {id : Nat} : vAlloc Try.prog 21 id = some (.pointer (some ⟨id, 0, none⟩), .cells [.int .i32 0] boxMeta) := by kernel_rfl
theorem if21 : infoOf Try.prog 21 = some (1, 4, .int .i32 0) := by kernel_rfl
theorem al22 {id : Nat} : vAlloc Try.prog 22 id = some (.pointer (some ⟨id, 0, none⟩), .cells [.nilFunc] boxMeta) := by kernel_rfl
theorem if22 : infoOf Try.prog 22 = some (1, 8, .nilFunc) := by kernel_rfl
theorem ia23 {id off len c : Nat} {k : IntKind} {n : Int} (h0 : 0 ≤ n) (h1 : n < (len : Int)) : aindexAddr Try.prog 23 (.slice (some ⟨id, off, none⟩) len c) (.int k n) = some (.pointer (some ⟨id, off + n.toNat * 3, none⟩)) := ia Try.underlying23 sz40 h0 h1
theorem ln23 {n c : Nat} {a : Option Addr} : alen Try.prog 23 (.slice a n c) = some (.int .i64 n) := by
  have hu := Try.underlying23
  simp [alen, hu, goInt]
theorem al23 {id : Nat} : vAlloc Try.prog 23 id = some (.pointer (some ⟨id, 0, none⟩), .cells [.slice none 0 0] boxMeta) := by kernel_rfl
theorem if23 : infoOf Try.prog 23 = some (1, 24, .slice none 0 0) := by kernel_rfl
theorem fa24_0 {id off : Nat} : afieldAddr Try.prog 24 (.pointer (some ⟨id, off, none⟩)) 0 = some (.pointer (some ⟨id, off, none⟩)) := by rw [fa (n := 1) Try.underlying24 rfl sz23 (by decide)]; rfl
theorem fa24_1 {id off : Nat} : afieldAddr Try.prog 24 (.pointer (some ⟨id, off, none⟩)) 1 = some (.pointer (some ⟨id, off + 1, none⟩)) := by rw [fa (n := 1) Try.underlying24 rfl sz3 (by decide)]; rfl
theorem al24 {id : Nat} : vAlloc Try.prog 24 id = some (.pointer (some ⟨id, 0, none⟩), .cells [.slice none 0 0, .int .i64 0] boxMeta) := by kernel_rfl
theorem if24 : infoOf Try.prog 24 = some (2, 32, .agg #[.slice none 0 0, .int .i64 0]) := by kernel_rfl
theorem fa25_0 {id off : Nat} : afieldAddr Try.prog 25 (.pointer (some ⟨id, off, none⟩)) 0 = some (.pointer (some ⟨id, off, none⟩)) := by rw [fa (n := 1) Try.underlying25 rfl sz23 (by decide)]; rfl
theorem fa25_1 {id off : Nat} : afieldAddr Try.prog 25 (.pointer (some ⟨id, off, none⟩)) 1 = some (.pointer (some ⟨id, off + 1, none⟩)) := by rw [fa (n := 1) Try.underlying25 rfl sz3 (by decide)]; rfl
theorem al25 {id : Nat} : vAlloc Try.prog 25 id = some (.pointer (some ⟨id, 0, none⟩), .cells [.slice none 0 0, .int .i64 0] boxMeta) := by kernel_rfl
theorem if25 : infoOf Try.prog 25 = some (2, 32, .agg #[.slice none 0 0, .int .i64 0]) := by kernel_rfl
theorem al26 {id : Nat} : vAlloc Try.prog 26 id = some (.pointer (some ⟨id, 0, none⟩), .cells [.int .i64 0] boxMeta) := by kernel_rfl
theorem if26 : infoOf Try.prog 26 = some (1, 8, .int .i64 0) := by kernel_rfl
theorem al28 {id : Nat} : vAlloc Try.prog 28 id = some (.pointer (some ⟨id, 0, none⟩), .cells [.nilFunc] boxMeta) := by kernel_rfl
theorem if28 : infoOf Try.prog 28 = some (1, 8, .nilFunc) := by kernel_rfl
theorem al29 {id : Nat} : vAlloc Try.prog 29 id = some (.pointer (some ⟨id, 0, none⟩), .cells [.nilFunc] boxMeta) := by kernel_rfl
theorem if29 : infoOf Try.prog 29 = some (1, 8, .nilFunc) := by kernel_rfl
theorem al30 {id : Nat} : vAlloc Try.prog 30 id = some (.pointer (some ⟨id, 0, none⟩), .cells [.nilFunc] boxMeta) := by kernel_rfl
theorem if30 : infoOf Try.prog 30 = some (1, 8, .nilFunc) := by kernel_rfl
theorem al31 {id : Nat} : vAlloc Try.prog 31 id = some (.pointer (some ⟨id, 0, none⟩), .cells [.nilFunc] boxMeta) := by kernel_rfl
theorem if31 : infoOf Try.prog 31 = some (1, 8, .nilFunc) := by kernel_rfl
theorem ia32 {id off len c : Nat} {k : IntKind} {n : Int} (h0 : 0 ≤ n) (h1 : n < (len : Int)) : aindexAddr Try.prog 32 (.slice (some ⟨id, off, none⟩) len c) (.int k n) = some (.pointer (some ⟨id, off + n.toNat * 1, none⟩)) := ia Try.underlying32 sz5 h0 h1
theorem ln32 {n c : Nat} {a : Option Addr} : alen Try.prog 32 (.slice a n c) = some (.int .i64 n) := by
  have hu := Try.underlying32
  simp [alen, hu, goInt]
theorem al32 {id : Nat} : vAlloc Try.prog 32 id = some (.pointer (some ⟨id, 0, none⟩), .cells [.slice none 0 0] boxMeta) := by kernel_rfl
theorem if32 : infoOf Try.prog 32 = some (1, 24, .slice none 0 0) := by kernel_rfl
theorem al33 {id : Nat} : vAlloc Try.prog 33 id = some (.pointer (some ⟨id, 0, none⟩), .cells [.int .i8 0] boxMeta) := by kernel_rfl
theorem if33 : infoOf Try.prog 33 = some (1, 1, .int .i8 0) := by kernel_rfl
theorem al34 {id : Nat} : vAlloc Try.prog 34 id = some (.pointer (some ⟨id, 0, none⟩), .cells [.nilFunc] boxMeta) := by kernel_rfl
theorem if34 : infoOf Try.prog 34 = some (1, 8, .nilFunc) := by kernel_rfl
theorem al35 {id : Nat} : vAlloc Try.prog 35 id = some (.pointer (some ⟨id, 0, none⟩), .cells [.nilFunc] boxMeta) := by kernel_rfl
theorem if35 : infoOf Try.prog 35 = some (1, 8, .nilFunc) := by kernel_rfl
theorem al36 {id : Nat} : vAlloc Try.prog 36 id = some (.pointer (some ⟨id, 0, none⟩), .cells [.pointer none] boxMeta) := by kernel_rfl
theorem if36 : infoOf Try.prog 36 = some (1, 8, .pointer none) := by kernel_rfl
theorem fa37_0 {id off : Nat} : afieldAddr Try.prog 37 (.pointer (some ⟨id, off, none⟩)) 0 = some (.pointer (some ⟨id, off, none⟩)) := by rw [fa (n := 1) Try.underlying37 rfl sz32 (by decide)]; rfl
theorem fa37_1 {id off : Nat} : afieldAddr Try.prog 37 (.pointer (some ⟨id, off, none⟩)) 1 = some (.pointer (some ⟨id, off + 1, none⟩)) := by rw [fa (n := 1) Try.underlying37 rfl sz3 (by decide)]; rfl
theorem al37 {id : Nat} : vAlloc Try.prog 37 id = some (.pointer (some ⟨id, 0, none⟩), .cells [.slice none 0 0, .int .i64 0] boxMeta) := by kernel_rfl
theorem if37 : infoOf Try.prog 37 = some (2, 32, .agg #[.slice none 0 0, .int .i64 0]) := by kernel_rfl
theorem fa38_0 {id off : Nat} : afieldAddr Try.prog 38 (.pointer (some ⟨id, off, none⟩)) 0 = some (.pointer (some ⟨id, off, none⟩)) := by rw [fa (n := 1) Try.underlying38 rfl sz32 (by decide)]; rfl
theorem fa38_1 {id off : Nat} : afieldAddr Try.prog 38 (.pointer (some ⟨id, off, none⟩)) 1 = some (.pointer (some ⟨id, off + 1, none⟩)) := by rw [fa (n := 1) Try.underlying38 rfl sz3 (by decide)]; rfl
theorem al38 {id : Nat} : vAlloc Try.prog 38 id = some (.pointer (some ⟨id, 0, none⟩), .cells [.slice none 0 0, .int .i64 0] boxMeta) := by kernel_rfl
theorem if38 : infoOf Try.prog 38 = some (2, 32, .agg #[.slice none 0 0, .int .i64 0]) := by kernel_rfl
theorem fa39_0 {id off : Nat} : afieldAddr Try.prog 39 (.pointer (some ⟨id, off, none⟩)) 0 = some (.pointer (some ⟨id, off, none⟩)) := by rw [fa (n := 1) Try.underlying39 rfl sz3 (by decide)]; rfl
theorem fa39_1 {id off : Nat} : afieldAddr Try.prog 39 (.pointer (some ⟨id, off, none⟩)) 1 = some (.pointer (some ⟨id, off + 1, none⟩)) := by rw [fa (n := 1) Try.underlying39 rfl sz3 (by decide)]; rfl
theorem fa39_2 {id off : Nat} : afieldAddr Try.prog 39 (.pointer (some ⟨id, off, none⟩)) 2 = some (.pointer (some ⟨id, off + 2, none⟩)) := by rw [fa (n := 1) Try.underlying39 rfl sz3 (by decide)]; rfl
theorem al39 {id : Nat} : vAlloc Try.prog 39 id = some (.pointer (some ⟨id, 0, none⟩), .cells [.int .i64 0, .int .i64 0, .int .i64 0] boxMeta) := by kernel_rfl
theorem if39 : infoOf Try.prog 39 = some (3, 24, .agg #[.int .i64 0, .int .i64 0, .int .i64 0]) := by kernel_rfl
theorem fa40_0 {id off : Nat} : afieldAddr Try.prog 40 (.pointer (some ⟨id, off, none⟩)) 0 = some (.pointer (some ⟨id, off, none⟩)) := by rw [fa (n := 1) Try.underlying40 rfl sz3 (by decide)]; rfl
theorem fa40_1 {id off : Nat} : afieldAddr Try.prog 40 (.pointer (some ⟨id, off, none⟩)) 1 = some (.pointer (some ⟨id, off + 1, none⟩)) := by rw [fa (n := 1) Try.underlying40 rfl sz3 (by decide)]; rfl
theorem fa40_2 {id off : Nat} : afieldAddr Try.prog 40 (.pointer (some ⟨id, off, none⟩)) 2 = some (.pointer (some ⟨id, off + 2, none⟩)) := by rw [fa (n := 1) Try.underlying40 rfl sz3 (by decide)]; rfl
theorem al40 {id : Nat} : vAlloc Try.prog 40 id = some (.pointer (some ⟨id, 0, none⟩), .cells [.int .i64 0, .int .i64 0, .int .i64 0] boxMeta) := by kernel_rfl
theorem if40 : infoOf Try.prog 40 = some (3, 24, .agg #[.int .i64 0, .int .i64 0, .int .i64 0]) := by kernel_rfl
theorem al41 {id : Nat} : vAlloc Try.prog 41 id = some (.pointer (some ⟨id, 0, none⟩), .cells [.nilFunc] boxMeta) := by kernel_rfl
theorem if41 : infoOf Try.prog 41 = some (1, 8, .nilFunc) := by kernel_rfl
theorem al42 {id : Nat} : vAlloc Try.prog 42 id = some (.pointer (some ⟨id, 0, none⟩), .cells [.int .u16 0] boxMeta) := by kernel_rfl
theorem if42 : infoOf Try.prog 42 = some (1, 2, .int .u16 0) := by kernel_rfl
theorem ia43 {id off len c : Nat} {k : IntKind} {n : Int} (h0 : 0 ≤ n) (h1 : n < (len : Int)) : aindexAddr Try.prog 43 (.slice (some ⟨id, off, none⟩) len c) (.int k n) = some (.pointer (some ⟨id, off + n.toNat * 1, none⟩)) := ia Try.underlying43 sz4 h0 h1
theorem ln43 {n c : Nat} {a : Option Addr} : alen Try.prog 43 (.slice a n c) = some (.int .i64 n) := by
  have hu := Try.underlying43
  simp [alen, hu, goInt]
theorem al43 {id : Nat} : vAlloc Try.prog 43 id = some (.pointer (some ⟨id, 0, none⟩), .cells [.slice none 0 0] boxMeta) := by kernel_rfl
theorem if43 : infoOf Try.prog 43 = some (1, 24, .slice none 0 0) := by kernel_rfl
theorem al44 {id : Nat} : vAlloc Try.prog 44 id = some (.pointer (some ⟨id, 0, none⟩), .cells [.nilFunc] boxMeta) := by kernel_rfl
theorem if44 : infoOf Try.prog 44 = some (1, 8, .nilFunc) := by kernel_rfl
theorem al45 {id : Nat} : vAlloc Try.prog 45 id = some (.pointer (some ⟨id, 0, none⟩), .cells [.nilFunc] boxMeta) := by kernel_rfl
theorem if45 : infoOf Try.prog 45 = some (1, 8, .nilFunc) := by kernel_rfl
theorem al46 {id : Nat} : vAlloc Try.prog 46 id = some (.pointer (some ⟨id, 0, none⟩), .cells [.int .u64 0] boxMeta) := by kernel_rfl
theorem if46 : infoOf Try.prog 46 = some (1, 8, .int .u64 0) := by kernel_rfl
theorem al47 {id : Nat} : vAlloc Try.prog 47 id = some (.pointer (some ⟨id, 0, none⟩), .cells [.nilFunc] boxMeta) := by kernel_rfl
theorem if47 : infoOf Try.prog 47 = some (1, 8, .nilFunc) := by kernel_rfl
theorem al48 {id : Nat} : vAlloc Try.prog 48 id = some (.pointer (some ⟨id, 0, none⟩), .cells [.nilFunc] boxMeta) := by kernel_rfl
theorem if48 : infoOf Try.prog 48 = some (1, 8, .nilFunc) := by kernel_rfl
theorem al49 {id : Nat} : vAlloc Try.prog 49 id = some (.pointer (some ⟨id, 0, none⟩), .cells [.nilFunc] boxMeta) := by kernel_rfl
theorem if49 : infoOf Try.prog 49 = some (1, 8, .nilFunc) := by kernel_rfl
theorem al50 {id : Nat} : vAlloc Try.prog 50 id = some (.pointer (some ⟨id, 0, none⟩), .cells [.nilFunc] boxMeta) := by kernel_rfl
theorem if50 : infoOf Try.prog 50 = some (1, 8, .nilFunc) := by kernel_rfl
theorem al51 {id : Nat} : vAlloc Try.prog 51 id = some (.pointer (some ⟨id, 0, none⟩), .cells [.nilFunc] boxMeta) := by kernel_rfl
theorem if51 : infoOf Try.prog 51 = some (1, 8, .nilFunc) := by kernel_rfl
theorem al52 {id : Nat} : vAlloc Try.prog 52 id = some (.pointer (some ⟨id, 0, none⟩), .cells [.nilFunc] boxMeta) := by kernel_rfl
theorem if52 : infoOf Try.prog 52 = some (1, 8, .nilFunc) := by kernel_rfl
theorem al53 {id : Nat} : vAlloc Try.prog 53 id = some (.pointer (some ⟨id, 0, none⟩), .cells [.nilFunc] boxMeta) := by kernel_rfl
theorem if53 : infoOf Try.prog 53 = some (1, 8, .nilFunc) := by kernel_rfl
theorem al54 {id : Nat} : vAlloc Try.prog 54 id = some (.pointer (some ⟨id, 0, none⟩), .cells [.nilFunc] boxMeta) := by kernel_rfl
theorem if54 : infoOf Try.prog 54 = some (1, 8, .nilFunc) := by kernel_rfl
theorem al55 {id : Nat} : vAlloc Try.prog 55 id = some (.pointer (some ⟨id, 0, none⟩), .cells [.nilFunc] boxMeta) := by kernel_rfl
theorem if55 : infoOf Try.prog 55 = some (1, 8, .nilFunc) := by kernel_rfl
theorem al56 {id : Nat} : vAlloc Try.prog 56 id = some (.pointer (some ⟨id, 0, none⟩), .cells [.nilFunc] boxMeta) := by kernel_rfl
theorem if56 : infoOf Try.prog 56 = some (1, 8, .nilFunc) := by kernel_rfl
theorem al57 {id : Nat} : vAlloc Try.prog 57 id = some (.pointer (some ⟨id, 0, none⟩), .cells [.nilFunc] boxMeta) := by kernel_rfl
theorem if57 : infoOf Try.prog 57 = some (1, 8, .nilFunc) := by kernel_rfl
theorem ia58 {id off len c : Nat} {k : IntKind} {n : Int} (h0 : 0 ≤ n) (h1 : n < (len : Int)) : aindexAddr Try.prog 58 (.slice (some ⟨id, off, none⟩) len c) (.int k n) = some (.pointer (some ⟨id, off + n.toNat * 1, none⟩)) := ia Try.underlying58 sz3 h0 h1
theorem ln58 {n c : Nat} {a : Option Addr} : alen Try.prog 58 (.slice a n c) = some (.int .i64 n) := by
  have hu := Try.underlying58
  simp [alen, hu, goInt]
theorem al58 {id : Nat} : vAlloc Try.prog 58 id = some (.pointer (some ⟨id, 0, none⟩), .cells [.slice none 0 0] boxMeta) := by kernel_rfl
theorem if58 : infoOf Try.prog 58 = some (1, 24, .slice none 0 0) := by kernel_rfl
theorem al59 {id : Nat} : vAlloc Try.prog 59 id = some (.pointer (some ⟨id, 0, none⟩), .cells [.nilFunc] boxMeta) := by kernel_rfl
theorem if59 : infoOf Try.prog 59 = some (1, 8, .nilFunc) := by kernel_rfl
theorem al61 {id : Nat} : vAlloc Try.prog 61 id = some (.pointer (some ⟨id, 0, none⟩), .cells [.nilFunc] boxMeta) := by kernel_rfl
theorem if61 : infoOf Try.prog 61 = some (1, 8, .nilFunc) := by kernel_rfl
theorem al62 {id : Nat} : vAlloc Try.prog 62 id = some (.pointer (some ⟨id, 0, none⟩), .cells [.nilFunc] boxMeta) := by kernel_rfl
theorem if62 : infoOf Try.prog 62 = some (1, 8, .nilFunc) := by kernel_rfl
theorem al63 {id : Nat} : vAlloc Try.prog 63 id = some (.pointer (some ⟨id, 0, none⟩), .cells [.nilFunc] boxMeta) := by kernel_rfl
theorem if63 : infoOf Try.prog 63 = some (1, 8, .nilFunc) := by kernel_rfl
theorem al64 {id : Nat} : vAlloc Try.prog 64 id = some (.pointer (some ⟨id, 0, none⟩), .cells [.nilFunc] boxMeta) := by kernel_rfl
theorem if64 : infoOf Try.prog 64 = some (1, 8, .nilFunc) := by kernel_rfl
theorem al65 {id : Nat} : vAlloc Try.prog 65 id = some (.pointer (some ⟨id, 0, none⟩), .cells [.map none] boxMeta) := by kernel_rfl
theorem if65 : infoOf Try.prog 65 = some (1, 8, .map none) := by kernel_rfl
theorem al66 {id : Nat} : vAlloc Try.prog 66 id = some (.pointer (some ⟨id, 0, none⟩), .cells [.nilFunc] boxMeta) := by kernel_rfl
theorem if66 : infoOf Try.prog 66 = some (1, 8, .nilFunc) := by kernel_rfl
theorem al67 {id : Nat} : vAlloc Try.prog 67 id = some (.pointer (some ⟨id, 0, none⟩), .cells [.nilFunc] boxMeta) := by kernel_rfl
theorem if67 : infoOf Try.prog 67 = some (1, 8, .nilFunc) := by kernel_rfl
theorem ia68 {id off len c : Nat} {k : IntKind} {n : Int} (h0 : 0 ≤ n) (h1 : n < (len : Int)) : aindexAddr Try.prog 68 (.slice (some ⟨id, off, none⟩) len c) (.int k n) = some (.pointer (some ⟨id, off + n.toNat * 2, none⟩)) := ia Try.underlying68 sz25 h0 h1
theorem ln68 {n c : Nat} {a : Option Addr} : alen Try.prog 68 (.slice a n c) = some (.int .i64 n) := by
  have hu := Try.underlying68
  simp [alen, hu, goInt]
theorem al68 {id : Nat} : vAlloc Try.prog 68 id = some (.pointer (some ⟨id, 0, none⟩), .cells [.slice none 0 0] boxMeta) := by kernel_rfl
theorem if68 : infoOf Try.prog 68 = some (1, 24, .slice none 0 0) := by kernel_rfl
theorem al69 {id : Nat} : vAlloc Try.prog 69 id = some (.pointer (some ⟨id, 0, none⟩), .cells [.pointer none] boxMeta) := by kernel_rfl
theorem if69 : infoOf Try.prog 69 = some (1, 8, .pointer none) := by kernel_rfl
theorem al70 {id : Nat} : vAlloc Try.prog 70 id = some (.pointer (some ⟨id, 0, none⟩), .cells [.nilFunc] boxMeta) := by kernel_rfl
theorem if70 : infoOf Try.prog 70 = some (1, 8, .nilFunc) := by kernel_rfl
theorem al71 {id : Nat} : vAlloc Try.prog 71 id = some (.pointer (some ⟨id, 0, none⟩), .cells [.map none] boxMeta) := by kernel_rfl
theorem if71 : infoOf Try.prog 71 = some (1, 8, .map none) := by kernel_rfl
theorem al73 {id : Nat} : vAlloc Try.prog 73 id = some (.pointer (some ⟨id, 0, none⟩), .cells [.nilFunc] boxMeta) := by kernel_rfl
theorem if73 : infoOf Try.prog 73 = some (1, 8, .nilFunc) := by kernel_rfl
theorem al74 {id : Nat} : vAlloc Try.prog 74 id = some (.pointer (some ⟨id, 0, none⟩), .cells [.nilFunc] boxMeta) := by kernel_rfl
theorem if74 : infoOf Try.prog 74 = some (1, 8, .nilFunc) := by kernel_rfl
theorem al75 {id : Nat} : vAlloc Try.prog 75 id = some (.pointer (some ⟨id, 0, none⟩), .cells [.nilFunc] boxMeta) := by kernel_rfl
theorem if75 : infoOf Try.prog 75 = some (1, 8, .nilFunc) := by kernel_rfl
theorem al76 {id : Nat} : vAlloc Try.prog 76 id = some (.pointer (some ⟨id, 0, none⟩), .cells [.pointer none] boxMeta) := by kernel_rfl
theorem if76 : infoOf Try.prog 76 = some (1, 8, .pointer none) := by kernel_rfl
theorem fa77_0 {id off : Nat} : afieldAddr Try.prog 77 (.pointer (some ⟨id, off, none⟩)) 0 = some (.pointer (some ⟨id, off, none⟩)) := by rw [fa (n := 1) Try.underlying77 rfl sz23 (by decide)]; rfl
theorem al77 {id : Nat} : vAlloc Try.prog 77 id = some (.pointer (some ⟨id, 0, none⟩), .cells [.slice none 0 0] boxMeta) := by kernel_rfl
theorem if77 : infoOf Try.prog 77 = some (1, 24, .agg #[.slice none 0 0]) := by kernel_rfl
theorem fa78_0 {id off : Nat} : afieldAddr Try.prog 78 (.pointer (some ⟨id, off, none⟩)) 0 = some (.pointer (some ⟨id, off, none⟩)) := by rw [fa (n := 1) Try.underlying78 rfl sz23 (by decide)]; rfl
theorem al78 {id : Nat} : vAlloc Try.prog 78 id = some (.pointer (some ⟨id, 0, none⟩), .cells [.slice none 0 0] boxMeta) := by kernel_rfl
theorem if78 : infoOf Try.prog 78 = some (1, 24, .agg #[.slice none 0 0]) := by kernel_rfl
theorem al79 {id : Nat} : vAlloc Try.prog 79 id = some (.pointer (some ⟨id, 0, none⟩), .cells [.nilFunc] boxMeta) := by kernel_rfl
theorem if79 : infoOf Try.prog 79 = some (1, 8, .nilFunc) := by kernel_rfl
theorem al80 {id : Nat} : vAlloc Try.prog 80 id = some (.pointer (some ⟨id, 0, none⟩), .cells [.map none] boxMeta) := by kernel_rfl
theorem if80 : infoOf Try.prog 80 = some (1, 8, .map none) := by kernel_rfl
theorem al81 {id : Nat} : vAlloc Try.prog 81 id = some (.pointer (some ⟨id, 0, none⟩), .cells [.int .i64 0, .int .i64 0, .int .i64 0] boxMeta) := by kernel_rfl
theorem if81 : infoOf Try.prog 81 = some (3, 24, .agg #[.int .i64 0, .int .i64 0, .int .i64 0]) := by kernel_rfl
theorem al82 {id : Nat} : vAlloc Try.prog 82 id = some (.pointer (some ⟨id, 0, none⟩), .cells [.nilFunc] boxMeta) := by kernel_rfl
theorem if82 : infoOf Try.prog 82 = some (1, 8, .nilFunc) := by kernel_rfl
theorem al83 {id : Nat} : vAlloc Try.prog 83 id = some (.pointer (some ⟨id, 0, none⟩), .cells [.map none] boxMeta) := by kernel_rfl
theorem if83 : infoOf Try.prog 83 = some (1, 8, .map none) := by kernel_rfl
theorem fa84_0 {id off : Nat} : afieldAddr Try.prog 84 (.pointer (some ⟨id, off, none⟩)) 0 = some (.pointer (some ⟨id, off, none⟩)) := by rw [fa (n := 1) Try.underlying84 rfl sz23 (by decide)]; rfl
theorem fa84_1 {id off : Nat} : afieldAddr Try.prog 84 (.pointer (some ⟨id, off, none⟩)) 1 = some (.pointer (some ⟨id, off + 1, none⟩)) := by rw [fa (n := 1) Try.underlying84 rfl sz83 (by decide)]; rfl
theorem al84 {id : Nat} : vAlloc Try.prog 84 id = some (.pointer (some ⟨id, 0, none⟩), .cells [.slice none 0 0, .map none] boxMeta) := by kernel_rfl
theorem if84 : infoOf Try.prog 84 = some (2, 32, .agg #[.slice none 0 0, .map none]) := by kernel_rfl
theorem fa85_0 {id off : Nat} : afieldAddr Try.prog 85 (.pointer (some ⟨id, off, none⟩)) 0 = some (.pointer (some ⟨id, off, none⟩)) := by rw [fa (n := 1) Try.underlying85 rfl sz23 (by decide)]; rfl
theorem fa85_1 {id off : Nat} : afieldAddr Try.prog 85 (.pointer (some ⟨id, off, none⟩)) 1 = some (.pointer (some ⟨id, off + 1, none⟩)) := by rw [fa (n := 1) Try.underlying85 rfl sz83 (by decide)]; rfl
theorem al85 {id : Nat} : vAlloc Try.prog 85 id = some (.pointer (some ⟨id, 0, none⟩), .cells [.slice none 0 0, .map none] boxMeta) := by kernel_rfl
theorem if85 : infoOf Try.prog 85 = some (2, 32, .agg #[.slice none 0 0, .map none]) := by kernel_rfl
theorem al86 {id : Nat} : vAlloc Try.prog 86 id = some (.pointer (some ⟨id, 0, none⟩), .cells [.nilFunc] boxMeta) := by kernel_rfl
theorem if86 : infoOf Try.prog 86 = some (1, 8, .nilFunc) := by kernel_rfl
theorem fa87_0 {id off : Nat} : afieldAddr Try.prog 87 (.pointer (some ⟨id, off, none⟩)) 0 = some (.pointer (some ⟨id, off, none⟩)) := by rw [fa (n := 1) Try.underlying87 rfl sz17 (by decide)]; rfl
theorem fa87_1 {id off : Nat} : afieldAddr Try.prog 87 (.pointer (some ⟨id, off, none⟩)) 1 = some (.pointer (some ⟨id, off + 1, none⟩)) := by rw [fa (n := 1) Try.underlying87 rfl sz17 (by decide)]; rfl
theorem fa87_2 {id off : Nat} : afieldAddr Try.prog 87 (.pointer (some ⟨id, off, none⟩)) 2 = some (.pointer (some ⟨id, off + 2, none⟩)) := by rw [fa (n := 1) Try.underlying87 rfl sz17 (by decide)]; rfl
theorem fa87_3 {id off : Nat} : afieldAddr Try.prog 87 (.pointer (some ⟨id, off, none⟩)) 3 = some (.pointer (some ⟨id, off + 3, none⟩)) := by rw [fa (n := 1) Try.underlying87 rfl sz9 (by decide)]; rfl
theorem al87 {id : Nat} : vAlloc Try.prog 87 id = some (.pointer (some ⟨id, 0, none⟩), .cells [.pointer none, .pointer none, .pointer none, .string ⟨#[]⟩] boxMeta) := by kernel_rfl
theorem if87 : infoOf Try.prog 87 = some (4, 40, .agg #[.pointer none, .pointer none, .pointer none, .string ⟨#[]⟩]) := by kernel_rfl
theorem fa88_0 {id off : Nat} : afieldAddr Try.prog 88 (.pointer (some ⟨id, off, none⟩)) 0 = some (.pointer (some ⟨id, off, none⟩)) := by rw [fa (n := 1) Try.underlying88 rfl sz17 (by decide)]; rfl
theorem fa88_1 {id off : Nat} : afieldAddr Try.prog 88 (.pointer (some ⟨id, off, none⟩)) 1 = some (.pointer (some ⟨id, off + 1, none⟩)) := by rw [fa (n := 1) Try.underlying88 rfl sz17 (by decide)]; rfl
theorem fa88_2 {id off : Nat} : afieldAddr Try.prog 88 (.pointer (some ⟨id, off, none⟩)) 2 = some (.pointer (some ⟨id, off + 2, none⟩)) := by rw [fa (n := 1) Try.underlying88 rfl sz17 (by decide)]; rfl
theorem fa88_3 {id off : Nat} : afieldAddr Try.prog 88 (.pointer (some ⟨id, off, none⟩)) 3 = some (.pointer (some ⟨id, off + 3, none⟩)) := by rw [fa (n := 1) Try.underlying88 rfl sz9 (by decide)]; rfl
theorem al88 {id : Nat} : vAlloc Try.prog 88 id = some (.pointer (some ⟨id, 0, none⟩), .cells [.pointer none, .pointer none, .pointer none, .string ⟨#[]⟩] boxMeta) := by kernel_rfl
theorem if88 : infoOf Try.prog 88 = some (4, 40, .agg #[.pointer none, .pointer none, .pointer none, .string ⟨#[]⟩]) := by kernel_rfl
theorem al89 {id : Nat} : vAlloc Try.prog 89 id = some (.pointer (some ⟨id, 0, none⟩), .cells [] boxMeta) := by kernel_rfl
theorem if89 : infoOf Try.prog 89 = some (0, 0, .agg #[]) := by kernel_rfl
theorem al90 {id : Nat} : vAlloc Try.prog 90 id = some (.pointer (some ⟨id, 0, none⟩), .cells [] boxMeta) := by kernel_rfl
theorem if90 : infoOf Try.prog 90 = some (0, 0, .agg #[]) := by kernel_rfl
theorem al91 {id : Nat} : vAlloc Try.prog 91 id = some (.pointer (some ⟨id, 0, none⟩), .cells [] boxMeta) := by kernel_rfl
theorem if91 : infoOf Try.prog 91 = some (0, 0, .agg #[]) := by kernel_rfl
theorem al92 {id : Nat} : vAlloc Try.prog 92 id = some (.pointer (some ⟨id, 0, none⟩), .cells [.nilFunc] boxMeta) := by kernel_rfl
theorem if92 : infoOf Try.prog 92 = some (1, 8, .nilFunc) := by kernel_rfl
theorem al93 {id : Nat} : vAlloc Try.prog 93 id = some (.pointer (some ⟨id, 0, none⟩), .cells [.int .u32 0] boxMeta) := by kernel_rfl
theorem if93 : infoOf Try.prog 93 = some (1, 4, .int .u32 0) := by kernel_rfl
theorem al94 {id : Nat} : vAlloc Try.prog 94 id = some (.pointer (some ⟨id, 0, none⟩), .cells [.int .u8 0] boxMeta) := by kernel_rfl
theorem if94 : infoOf Try.prog 94 = some (1, 1, .int .u8 0) := by kernel_rfl
theorem al95 {id : Nat} : vAlloc Try.prog 95 id = some (.pointer (some ⟨id, 0, none⟩), .cells [.int .u8 0] boxMeta) := by kernel_rfl
theorem if95 : infoOf Try.prog 95 = some (1, 1, .int .u8 0) := by kernel_rfl
theorem al96 {id : Nat} : vAlloc Try.prog 96 id = some (.pointer (some ⟨id, 0, none⟩), .cells [.nilFunc] boxMeta) := by kernel_rfl
theorem if96 : infoOf Try.prog 96 = some (1, 8, .nilFunc) := by kernel_rfl
theorem al97 {id : Nat} : vAlloc Try.prog 97 id = some (.pointer (some ⟨id, 0, none⟩), .cells [.pointer none] boxMeta) := by kernel_rfl
theorem if97 : infoOf Try.prog 97 = some (1, 8, .pointer none) := by kernel_rfl
theorem al98 {id : Nat} : vAlloc Try.prog 98 id = some (.pointer (some ⟨id, 0, none⟩), .cells [.int .i32 0] boxMeta) := by kernel_rfl
theorem if98 : infoOf Try.prog 98 = some (1, 4, .int .i32 0) := by kernel_rfl
theorem al99 {id : Nat} : vAlloc Try.prog 99 id = some (.pointer (some ⟨id, 0, none⟩), .cells [.int .i32 0] boxMeta) := by kernel_rfl
theorem if99 : infoOf Try.prog 99 = some (1, 4, .int .i32 0) := by kernel_rfl
theorem fa100_0 {id off : Nat} : afieldAddr Try.prog 100 (.pointer (some ⟨id, off, none⟩)) 0 = some (.pointer (some ⟨id, off, none⟩)) := by rw [fa (n := 1) Try.underlying100 rfl sz12 (by decide)]; rfl
theorem fa100_1 {id off : Nat} : afieldAddr Try.prog 100 (.pointer (some ⟨id, off, none⟩)) 1 = some (.pointer (some ⟨id, off + 1, none⟩)) := by rw [fa (n := 1) Try.underlying100 rfl sz12 (by decide)]; rfl
theorem fa100_2 {id off : Nat} : afieldAddr Try.prog 100 (.pointer (some ⟨id, off, none⟩)) 2 = some (.pointer (some ⟨id, off + 2, none⟩)) := by rw [fa (n := 1) Try.underlying100 rfl sz93 (by decide)]; rfl
theorem fa100_3 {id off : Nat} : afieldAddr Try.prog 100 (.pointer (some ⟨id, off, none⟩)) 3 = some (.pointer (some ⟨id, off + 3, none⟩)) := by rw [fa (n := 1) Try.underlying100 rfl sz94 (by decide)]; rfl
theorem fa100_4 {id off : Nat} : afieldAddr Try.prog 100 (.pointer (some ⟨id, off, none⟩)) 4 = some (.pointer (some ⟨id, off + 4, none⟩)) := by rw [fa (n := 1) Try.underlying100 rfl sz5 (by decide)]; rfl
theorem fa100_5 {id off : Nat} : afieldAddr Try.prog 100 (.pointer (some ⟨id, off, none⟩)) 5 = some (.pointer (some ⟨id, off + 5, none⟩)) := by rw [fa (n := 1) Try.underlying100 rfl sz5 (by decide)]; rfl
theorem fa100_6 {id off : Nat} : afieldAddr Try.prog 100 (.pointer (some ⟨id, off, none⟩)) 6 = some (.pointer (some ⟨id, off + 6, none⟩)) := by rw [fa (n := 1) Try.underlying100 rfl sz95 (by decide)]; rfl
theorem fa100_7 {id off : Nat} : afieldAddr Try.prog 100 (.pointer (some ⟨id, off, none⟩)) 7 = some (.pointer (some ⟨id, off + 7, none⟩)) := by rw [fa (n := 1) Try.underlying100 rfl sz96 (by decide)]; rfl
theorem fa100_8 {id off : Nat} : afieldAddr Try.prog 100 (.pointer (some ⟨id, off, none⟩)) 8 = some (.pointer (some ⟨id, off + 8, none⟩)) := by rw [fa (n := 1) Try.underlying100 rfl sz97 (by decide)]; rfl
theorem fa100_9 {id off : Nat} : afieldAddr Try.prog 100 (.pointer (some ⟨id, off, none⟩)) 9 = some (.pointer (some ⟨id, off + 9, none⟩)) := by rw [fa (n := 1) Try.underlying100 rfl sz98 (by decide)]; rfl
theorem fa100_10 {id off : Nat} : afieldAddr Try.prog 100 (.pointer (some ⟨id, off, none⟩)) 10 = some (.pointer (some ⟨id, off + 10, none⟩)) := by rw [fa (n := 1) Try.underlying100 rfl sz99 (by decide)]; rfl
theorem al100 {id : Nat} : vAlloc Try.prog 100 id = some (.pointer (some ⟨id, 0, none⟩), .cells [.int .u64 0, .int .u64 0, .int .u32 0, .int .u8 0, .int .u8 0, .int .u8 0, .int .u8 0, .nilFunc, .pointer none, .int .i32 0, .int .i32 0] boxMeta) := by kernel_rfl
theorem if100 : infoOf Try.prog 100 = some (11, 48, .agg #[.int .u64 0, .int .u64 0, .int .u32 0, .int .u8 0, .int .u8 0, .int .u8 0, .int .u8 0, .nilFunc, .pointer none, .int .i32 0, .int .i32 0]) := by kernel_rfl
theorem fa101_0 {id off : Nat} : afieldAddr Try.prog 101 (.pointer (some ⟨id, off, none⟩)) 0 = some (.pointer (some ⟨id, off, none⟩)) := by rw [fa (n := 1) Try.underlying101 rfl sz12 (by decide)]; rfl
theorem fa101_1 {id off : Nat} : afieldAddr Try.prog 101 (.pointer (some ⟨id, off, none⟩)) 1 = some (.pointer (some ⟨id, off + 1, none⟩)) := by rw [fa (n := 1) Try.underlying101 rfl sz12 (by decide)]; rfl
theorem fa101_2 {id off : Nat} : afieldAddr Try.prog 101 (.pointer (some ⟨id, off, none⟩)) 2 = some (.pointer (some ⟨id, off + 2, none⟩)) := by rw [fa (n := 1) Try.underlying101 rfl sz93 (by decide)]; rfl
theorem fa101_3 {id off : Nat} : afieldAddr Try.prog 101 (.pointer (some ⟨id, off, none⟩)) 3 = some (.pointer (some ⟨id, off + 3, none⟩)) := by rw [fa (n := 1) Try.underlying101 rfl sz94 (by decide)]; rfl
theorem fa101_4 {id off : Nat} : afieldAddr Try.prog 101 (.pointer (some ⟨id, off, none⟩)) 4 = some (.pointer (some ⟨id, off + 4, none⟩)) := by rw [fa (n := 1) Try.underlying101 rfl sz5 (by decide)]; rfl
theorem fa101_5 {id off : Nat} : afieldAddr Try.prog 101 (.pointer (some ⟨id, off, none⟩)) 5 = some (.pointer (some ⟨id, off + 5, none⟩)) := by rw [fa (n := 1) Try.underlying101 rfl sz5 (by decide)]; rfl
theorem fa101_6 {id off : Nat} : afieldAddr Try.prog 101 (.pointer (some ⟨id, off, none⟩)) 6 = some (.pointer (some ⟨id, off + 6, none⟩)) := by rw [fa (n := 1) Try.underlying101 rfl sz95 (by decide)]; rfl
theorem fa101_7 {id off : Nat} : afieldAddr Try.prog 101 (.pointer (some ⟨id, off, none⟩)) 7 = some (.pointer (some ⟨id, off + 7, none⟩)) := by rw [fa (n := 1) Try.underlying101 rfl sz96 (by decide)]; rfl
theorem fa101_8 {id off : Nat} : afieldAddr Try.prog 101 (.pointer (some ⟨id, off, none⟩)) 8 = some (.pointer (some ⟨id, off + 8, none⟩)) := by rw [fa (n := 1) Try.underlying101 rfl sz97 (by decide)]; rfl
theorem fa101_9 {id off : Nat} : afieldAddr Try.prog 101 (.pointer (some ⟨id, off, none⟩)) 9 = some (.pointer (some ⟨id, off + 9, none⟩)) := by rw [fa (n := 1) Try.underlying101 rfl sz98 (by decide)]; rfl
theorem fa101_10 {id off : Nat} : afieldAddr Try.prog 101 (.pointer (some ⟨id, off, none⟩)) 10 = some (.pointer (some ⟨id, off + 10, none⟩)) := by rw [fa (n := 1) Try.underlying101 rfl sz99 (by decide)]; rfl
theorem al101 {id : Nat} : vAlloc Try.prog 101 id = some (.pointer (some ⟨id, 0, none⟩), .cells [.int .u64 0, .int .u64 0, .int .u32 0, .int .u8 0, .int .u8 0, .int .u8 0, .int .u8 0, .nilFunc, .pointer none, .int .i32 0, .int .i32 0] boxMeta) := by kernel_rfl
theorem if101 : infoOf Try.prog 101 = some (11, 48, .agg #[.int .u64 0, .int .u64 0, .int .u32 0, .int .u8 0, .int .u8 0, .int .u8 0, .int .u8 0, .nilFunc, .pointer none, .int .i32 0, .int .i32 0]) := by kernel_rfl
theorem TYA : type_of% (
  And.intro (And.intro (And.intro (And.intro (And.intro (And.intro (And.intro (And.intro (@ld2) (@st2)) (And.intro (@ld3) (And.intro (@st3) (@ld4)))) (And.intro (And.intro (@st4) (And.intro (@ld5)
  (@st5))) (And.intro (@ld6) (And.intro (@st6) (@ld7))))) (And.intro (And.intro (And.intro (@st7) (@ld8)) (And.intro (@st8) (And.intro (@ld9) (@st9)))) (And.intro (And.intro (@ld10) (And.intro (@st10)
  (@ld11))) (And.intro (@st11) (And.intro (@ld12) (@st12)))))) (And.intro (And.intro (And.intro (And.intro (@ld13) (@st13)) (And.intro (@ld14) (And.intro (@st14) (@ld15)))) (And.intro (And.intro (@st15)
  (And.intro (@ld16) (@st16))) (And.intro (@ld17) (And.intro (@st17) (@ld18))))) (And.intro (And.intro (And.intro (@st18) (@ld19)) (And.intro (@st19) (And.intro (@ld21) (@st21)))) (And.intro (And.intro
  (@ld22) (And.intro (@st22) (@ld23))) (And.intro (@st23) (And.intro (@ld24) (@st24))))))) (And.intro (And.intro (And.intro (And.intro (And.intro (@ld25) (@st25)) (And.intro (@ld26) (And.intro (@st26)
  (@ld28)))) (And.intro (And.intro (@st28) (And.intro (@ld29) (@st29))) (And.intro (@ld30) (And.intro (@st30) (@ld31))))) (And.intro (And.intro (And.intro (@st31) (@ld32)) (And.intro (@st32) (And.intro
  (@ld33) (@st33)))) (And.intro (And.intro (@ld34) (And.intro (@st34) (@ld35))) (And.intro (@st35) (And.intro (@ld36) (@st36)))))) (And.intro (And.intro (And.intro (And.intro (@ld37) (@st37)) (And.intro
  (@ld38) (And.intro (@st38) (@ld39)))) (And.intro (And.intro (@st39) (And.intro (@ld40) (@st40))) (And.intro (@ld41) (And.intro (@st41) (@ld42))))) (And.intro (And.intro (And.intro (@st42) (And.intro
  (@ld43) (@st43))) (And.intro (@ld44) (And.intro (@st44) (@ld45)))) (And.intro (And.intro (@st45) (And.intro (@ld46) (@st46))) (And.intro (@ld47) (And.intro (@st47) (@ld48)))))))) (And.intro (And.intro
  (And.intro (And.intro (And.intro (And.intro (@st48) (@ld49)) (And.intro (@st49) (And.intro (@ld50) (@st50)))) (And.intro (And.intro (@ld51) (And.intro (@st51) (@ld52))) (And.intro (@st52) (And.intro
  (@ld53) (@st53))))) (And.intro (And.intro (And.intro (@ld54) (@st54)) (And.intro (@ld55) (And.intro (@st55) (@ld56)))) (And.intro (And.intro (@st56) (And.intro (@ld57) (@st57))) (And.intro (@ld58)
  (And.intro (@st58) (@ld59)))))) (And.intro (And.intro (And.intro (And.intro (@st59) (@ld61)) (And.intro (@st61) (And.intro (@ld62) (@st62)))) (And.intro (And.intro (@ld63) (And.intro (@st63) (@ld64)))
  (And.intro (@st64) (And.intro (@ld65) (@st65))))) (And.intro (And.intro (And.intro (@ld66) (@st66)) (And.intro (@ld67) (And.intro (@st67) (@ld68)))) (And.intro (And.intro (@st68) (And.intro (@ld69)
  (@st69))) (And.intro (@ld70) (And.intro (@st70) (@ld71))))))) (And.intro (And.intro (And.intro (And.intro (And.intro (@st71) (@ld73)) (And.intro (@st73) (And.intro (@ld74) (@st74)))) (And.intro
  (And.intro (@ld75) (And.intro (@st75) (@ld76))) (And.intro (@st76) (And.intro (@ld77) (@st77))))) (And.intro (And.intro (And.intro (@ld78) (@st78)) (And.intro (@ld79) (And.intro (@st79) (@ld80))))
  (And.intro (And.intro (@st80) (And.intro (@ld81) (@st81))) (And.intro (@ld82) (And.intro (@st82) (@ld83)))))) (And.intro (And.intro (And.intro (And.intro (@st83) (@ld84)) (And.intro (@st84) (And.intro
  (@ld85) (@st85)))) (And.intro (And.intro (@ld86) (And.intro (@st86) (@ld87))) (And.intro (@st87) (And.intro (@ld88) (@st88))))) (And.intro (And.intro (And.intro (@ld89) (And.intro (@st89) (@ld90)))
  (And.intro (@st90) (And.intro (@ld91) (@st91)))) (And.intro (And.intro (@ld92) (And.intro (@st92) (@ld93))) (And.intro (@st93) (And.intro (@ld94) (@st94))))))))) (And.intro (And.intro (And.intro
  (And.intro (And.intro (And.intro (And.intro (@ld95) (@st95)) (And.intro (@ld96) (And.intro (@st96) (@ld97)))) (And.intro (And.intro (@st97) (And.intro (@ld98) (@st98))) (And.intro (@ld99) (And.intro
  (@st99) (@ld100))))) (And.intro (And.intro (And.intro (@st100) (@ld101)) (And.intro (@st101) (And.intro (@al2) (@al3)))) (And.intro (And.intro (@al4) (And.intro (@al5) (@al6))) (And.intro (@fa7_0)
  (And.intro (@fa7_1) (@fa7_2)))))) (And.intro (And.intro (And.intro (And.intro (@fa7_3) (@al7)) (And.intro (@fa8_0) (And.intro (@fa8_1) (@fa8_2)))) (And.intro (And.intro (@fa8_3) (And.intro (@al8)
  (@al9))) (And.intro (@al10) (And.intro (@al11) (@al12))))) (And.intro (And.intro (And.intro (@fa13_0) (@fa13_1)) (And.intro (@al13) (And.intro (@fa14_0) (@fa14_1)))) (And.intro (And.intro (@al14)
  (And.intro (@al15) (@al16))) (And.intro (@al17) (And.intro (@fa18_0) (@al18))))))) (And.intro (And.intro (And.intro (And.intro (And.intro (@fa19_0) (@al19)) (And.intro (@al21) (And.intro (@al22)
  (@ln23)))) (And.intro (And.intro (@al23) (And.intro (@fa24_0) (@fa24_1))) (And.intro (@al24) (And.intro (@fa25_0) (@fa25_1))))) (And.intro (And.intro (And.intro (@al25) (@al26)) (And.intro (@al28)
  (And.intro (@al29) (@al30)))) (And.intro (And.intro (@al31) (And.intro (@ln32) (@al32))) (And.intro (@al33) (And.intro (@al34) (@al35)))))) (And.intro (And.intro (And.intro (And.intro (@al36)
  (@fa37_0)) (And.intro (@fa37_1) (And.intro (@al37) (@fa38_0)))) (And.intro (And.intro (@fa38_1) (And.intro (@al38) (@fa39_0))) (And.intro (@fa39_1) (And.intro (@fa39_2) (@al39))))) (And.intro
  (And.intro (And.intro (@fa40_0) (And.intro (@fa40_1) (@fa40_2))) (And.intro (@al40) (And.intro (@al41) (@al42)))) (And.intro (And.intro (@ln43) (And.intro (@al43) (@al44))) (And.intro (@al45)
  (And.intro (@al46) (@al47)))))))) (And.intro (And.intro (And.intro (And.intro (And.intro (And.intro (@al48) (@al49)) (And.intro (@al50) (And.intro (@al51) (@al52)))) (And.intro (And.intro (@al53)
  (And.intro (@al54) (@al55))) (And.intro (@al56) (And.intro (@al57) (@ln58))))) (And.intro (And.intro (And.intro (@al58) (@al59)) (And.intro (@al61) (And.intro (@al62) (@al63)))) (And.intro (And.intro
  (@al64) (And.intro (@al65) (@al66))) (And.intro (@al67) (And.intro (@ln68) (@al68)))))) (And.intro (And.intro (And.intro (And.intro (@al69) (@al70)) (And.intro (@al71) (And.intro (@al73) (@al74))))
  (And.intro (And.intro (@al75) (And.intro (@al76) (@fa77_0))) (And.intro (@al77) (And.intro (@fa78_0) (@al78))))) (And.intro (And.intro (And.intro (@al79) (And.intro (@al80) (@al81))) (And.intro
  (@al82) (And.intro (@al83) (@fa84_0)))) (And.intro (And.intro (@fa84_1) (And.intro (@al84) (@fa85_0))) (And.intro (@fa85_1) (And.intro (@al85) (@al86))))))) (And.intro (And.intro (And.intro (And.intro
  (And.intro (@fa87_0) (@fa87_1)) (And.intro (@fa87_2) (And.intro (@fa87_3) (@al87)))) (And.intro (And.intro (@fa88_0) (And.intro (@fa88_1) (@fa88_2))) (And.intro (@fa88_3) (And.intro (@al88)
  (@al89))))) (And.intro (And.intro (And.intro (@al90) (@al91)) (And.intro (@al92) (And.intro (@al93) (@al94)))) (And.intro (And.intro (@al95) (And.intro (@al96) (@al97))) (And.intro (@al98) (And.intro
  (@al99) (@fa100_0)))))) (And.intro (And.intro (And.intro (And.intro (@fa100_1) (@fa100_2)) (And.intro (@fa100_3) (And.intro (@fa100_4) (@fa100_5)))) (And.intro (And.intro (@fa100_6) (And.intro
  (@fa100_7) (@fa100_8))) (And.intro (@fa100_9) (And.intro (@fa100_10) (@al100))))) (And.intro (And.intro (And.intro (@fa101_0) (And.intro (@fa101_1) (@fa101_2))) (And.intro (@fa101_3) (And.intro
  (@fa101_4) (@fa101_5)))) (And.intro (And.intro (@fa101_6) (And.intro (@fa101_7) (@fa101_8))) (And.intro (@fa101_9) (And.intro (@fa101_10) (@al101)))))))))) :=
  And.intro (And.intro (And.intro (And.intro (And.intro (And.intro (And.intro (And.intro (@ld2) (@st2)) (And.intro (@ld3) (And.intro (@st3) (@ld4)))) (And.intro (And.intro (@st4) (And.intro (@ld5)
  (@st5))) (And.intro (@ld6) (And.intro (@st6) (@ld7))))) (And.intro (And.intro (And.intro (@st7) (@ld8)) (And.intro (@st8) (And.intro (@ld9) (@st9)))) (And.intro (And.intro (@ld10) (And.intro (@st10)
  (@ld11))) (And.intro (@st11) (And.intro (@ld12) (@st12)))))) (And.intro (And.intro (And.intro (And.intro (@ld13) (@st13)) (And.intro (@ld14) (And.intro (@st14) (@ld15)))) (And.intro (And.intro (@st15)
  (And.intro (@ld16) (@st16))) (And.intro (@ld17) (And.intro (@st17) (@ld18))))) (And.intro (And.intro (And.intro (@st18) (@ld19)) (And.intro (@st19) (And.intro (@ld21) (@st21)))) (And.intro (And.intro
  (@ld22) (And.intro (@st22) (@ld23))) (And.intro (@st23) (And.intro (@ld24) (@st24))))))) (And.intro (And.intro (And.intro (And.intro (And.intro (@ld25) (@st25)) (And.intro (@ld26) (And.intro (@st26)
  (@ld28)))) (And.intro (And.intro (@st28) (And.intro (@ld29) (@st29))) (And.intro (@ld30) (And.intro (@st30) (@ld31))))) (And.intro (And.intro (And.intro (@st31) (@ld32)) (And.intro (@st32) (And.intro
  (@ld33) (@st33)))) (And.intro (And.intro (@ld34) (And.intro (@st34) (@ld35))) (And.intro (@st35) (And.intro (@ld36) (@st36)))))) (And.intro (And.intro (And.intro (And.intro (@ld37) (@st37)) (And.intro
  (@ld38) (And.intro (@st38) (@ld39)))) (And.intro (And.intro (@st39) (And.intro (@ld40) (@st40))) (And.intro (@ld41) (And.intro (@st41) (@ld42))))) (And.intro (And.intro (And.intro (@st42) (And.intro
  (@ld43) (@st43))) (And.intro (@ld44) (And.intro (@st44) (@ld45)))) (And.intro (And.intro (@st45) (And.intro (@ld46) (@st46))) (And.intro (@ld47) (And.intro (@st47) (@ld48)))))))) (And.intro (And.intro
  (And.intro (And.intro (And.intro (And.intro (@st48) (@ld49)) (And.intro (@st49) (And.intro (@ld50) (@st50)))) (And.intro (And.intro (@ld51) (And.intro (@st51) (@ld52))) (And.intro (@st52) (And.intro
  (@ld53) (@st53))))) (And.intro (And.intro (And.intro (@ld54) (@st54)) (And.intro (@ld55) (And.intro (@st55) (@ld56)))) (And.intro (And.intro (@st56) (And.intro (@ld57) (@st57))) (And.intro (@ld58)
  (And.intro (@st58) (@ld59)))))) (And.intro (And.intro (And.intro (And.intro (@st59) (@ld61)) (And.intro (@st61) (And.intro (@ld62) (@st62)))) (And.intro (And.intro (@ld63) (And.intro (@st63) (@ld64)))
  (And.intro (@st64) (And.intro (@ld65) (@st65))))) (And.intro (And.intro (And.intro (@ld66) (@st66)) (And.intro (@ld67) (And.intro (@st67) (@ld68)))) (And.intro (And.intro (@st68) (And.intro (@ld69)
  (@st69))) (And.intro (@ld70) (And.intro (@st70) (@ld71))))))) (And.intro (And.intro (And.intro (And.intro (And.intro (@st71) (@ld73)) (And.intro (@st73) (And.intro (@ld74) (@st74)))) (And.intro
  (And.intro (@ld75) (And.intro (@st75) (@ld76))) (And.intro (@st76) (And.intro (@ld77) (@st77))))) (And.intro (And.intro (And.intro (@ld78) (@st78)) (And.intro (@ld79) (And.intro (@st79) (@ld80))))
  (And.intro (And.intro (@st80) (And.intro (@ld81) (@st81))) (And.intro (@ld82) (And.intro (@st82) (@ld83)))))) (And.intro (And.intro (And.intro (And.intro (@st83) (@ld84)) (And.intro (@st84) (And.intro
  (@ld85) (@st85)))) (And.intro (And.intro (@ld86) (And.intro (@st86) (@ld87))) (And.intro (@st87) (And.intro (@ld88) (@st88))))) (And.intro (And.intro (And.intro (@ld89) (And.intro (@st89) (@ld90)))
  (And.intro (@st90) (And.intro (@ld91) (@st91)))) (And.intro (And.intro (@ld92) (And.intro (@st92) (@ld93))) (And.intro (@st93) (And.intro (@ld94) (@st94))))))))) (And.intro (And.intro (And.intro
  (And.intro (And.intro (And.intro (And.intro (@ld95) (@st95)) (And.intro (@ld96) (And.intro (@st96) (@ld97)))) (And.intro (And.intro (@st97) (And.intro (@ld98) (@st98))) (And.intro (@ld99) (And.intro
  (@st99) (@ld100))))) (And.intro (And.intro (And.intro (@st100) (@ld101)) (And.intro (@st101) (And.intro (@al2) (@al3)))) (And.intro (And.intro (@al4) (And.intro (@al5) (@al6))) (And.intro (@fa7_0)
  (And.intro (@fa7_1) (@fa7_2)))))) (And.intro (And.intro (And.intro (And.intro (@fa7_3) (@al7)) (And.intro (@fa8_0) (And.intro (@fa8_1) (@fa8_2)))) (And.intro (And.intro (@fa8_3) (And.intro (@al8)
  (@al9))) (And.intro (@al10) (And.intro (@al11) (@al12))))) (And.intro (And.intro (And.intro (@fa13_0) (@fa13_1)) (And.intro (@al13) (And.intro (@fa14_0) (@fa14_1)))) (And.intro (And.intro (@al14)
  (And.intro (@al15) (@al16))) (And.intro (@al17) (And.intro (@fa18_0) (@al18))))))) (And.intro (And.intro (And.intro (And.intro (And.intro (@fa19_0) (@al19)) (And.intro (@al21) (And.intro (@al22)
  (@ln23)))) (And.intro (And.intro (@al23) (And.intro (@fa24_0) (@fa24_1))) (And.intro (@al24) (And.intro (@fa25_0) (@fa25_1))))) (And.intro (And.intro (And.intro (@al25) (@al26)) (And.intro (@al28)
  (And.intro (@al29) (@al30)))) (And.intro (And.intro (@al31) (And.intro (@ln32) (@al32))) (And.intro (@al33) (And.intro (@al34) (@al35)))))) (And.intro (And.intro (And.intro (And.intro (@al36)
  (@fa37_0)) (And.intro (@fa37_1) (And.intro (@al37) (@fa38_0)))) (And.intro (And.intro (@fa38_1) (And.intro (@al38) (@fa39_0))) (And.intro (@fa39_1) (And.intro (@fa39_2) (@al39))))) (And.intro
  (And.intro (And.intro (@fa40_0) (And.intro (@fa40_1) (@fa40_2))) (And.intro (@al40) (And.intro (@al41) (@al42)))) (And.intro (And.intro (@ln43) (And.intro (@al43) (@al44))) (And.intro (@al45)
  (And.intro (@al46) (@al47)))))))) (And.intro (And.intro (And.intro (And.intro (And.intro (And.intro (@al48) (@al49)) (And.intro (@al50) (And.intro (@al51) (@al52)))) (And.intro (And.intro (@al53)
  (And.intro (@al54) (@al55))) (And.intro (@al56) (And.intro (@al57) (@ln58))))) (And.intro (And.intro (And.intro (@al58) (@al59)) (And.intro (@al61) (And.intro (@al62) (@al63)))) (And.intro (And.intro
  (@al64) (And.intro (@al65) (@al66))) (And.intro (@al67) (And.intro (@ln68) (@al68)))))) (And.intro (And.intro (And.intro (And.intro (@al69) (@al70)) (And.intro (@al71) (And.intro (@al73) (@al74))))
  (And.intro (And.intro (@al75) (And.intro (@al76) (@fa77_0))) (And.intro (@al77) (And.intro (@fa78_0) (@al78))))) (And.intro (And.intro (And.intro (@al79) (And.intro (@al80) (@al81))) (And.intro
  (@al82) (And.intro (@al83) (@fa84_0)))) (And.intro (And.intro (@fa84_1) (And.intro (@al84) (@fa85_0))) (And.intro (@fa85_1) (And.intro (@al85) (@al86))))))) (And.intro (And.intro (And.intro (And.intro
  (And.intro (@fa87_0) (@fa87_1)) (And.intro (@fa87_2) (And.intro (@fa87_3) (@al87)))) (And.intro (And.intro (@fa88_0) (And.intro (@fa88_1) (@fa88_2))) (And.intro (@fa88_3) (And.intro (@al88)
  (@al89))))) (And.intro (And.intro (And.intro (@al90) (@al91)) (And.intro (@al92) (And.intro (@al93) (@al94)))) (And.intro (And.intro (@al95) (And.intro (@al96) (@al97))) (And.intro (@al98) (And.intro
  (@al99) (@fa100_0)))))) (And.intro (And.intro (And.intro (And.intro (@fa100_1) (@fa100_2)) (And.intro (@fa100_3) (And.intro (@fa100_4) (@fa100_5)))) (And.intro (And.intro (@fa100_6) (And.intro
  (@fa100_7) (@fa100_8))) (And.intro (@fa100_9) (And.intro (@fa100_10) (@al100))))) (And.intro (And.intro (And.intro (@fa101_0) (And.intro (@fa101_1) (@fa101_2))) (And.intro (@fa101_3) (And.intro
  (@fa101_4) (@fa101_5)))) (And.intro (And.intro (@fa101_6) (And.intro (@fa101_7) (@fa101_8))) (And.intro (@fa101_9) (And.intro (@fa101_10) (@al101)))))))))
end Go.Proofs.Ytlealdhgajomhaa
