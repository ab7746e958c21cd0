import Derived.Test.YtmjddjjcnhckgaaGreatDoorKh
import Derived.Test.YtmjddjjcnhckgaaGreatDoorKi
set_option linter.unusedVariables false
set_option linter.unusedSimpArgs false
set_option linter.constructorNameAsVariable false
namespace Go.Proofs.Q
open Go.AI
set_option maxRecDepth 20000
theorem sz2 : szOf Tryz.prog 2 = some 1 := by kernel_rfl
theorem ag2 : aggOf Tryz.prog 2 = some false := by kernel_rfl
theorem ld2 {σ : St} {id off : Nat} : aload Tryz.prog σ 2 (.pointer (some ⟨id, off, none⟩)) = (σ.row id).bind fun r => r.1[off]? := by
 simp only [aload, ag2]; cases σ.row id <;> rfl
theorem st2 {σ : St} {id off : Nat} {x : Value} : astore Tryz.prog σ 2 (.pointer (some ⟨id, off, none⟩)) x = (σ.row id).bind fun r => stw σ id off 1 x r.1 r.2 := st_eq sz2
theorem sz3 : szOf Tryz.prog 3 = some 1 := by kernel_rfl
theorem ag3 : aggOf Tryz.prog 3 = some false := by kernel_rfl
theorem ld3 {σ : St} {id off : Nat} : aload Tryz.prog σ 3 (.pointer (some ⟨id, off, none⟩)) = (σ.row id).bind fun r => r.1[off]? := by
 simp only [aload, ag3]; cases σ.row id <;> rfl
theorem st3 {σ : St} {id off : Nat} {x : Value} : astore Tryz.prog σ 3 (.pointer (some ⟨id, off, none⟩)) x = (σ.row id).bind fun r => stw σ id off 1 x r.1 r.2 := st_eq sz3
theorem sz4 : szOf Tryz.prog 4 = some 1 := by kernel_rfl
theorem ag4 : aggOf Tryz.prog 4 = some false := by kernel_rfl
theorem ld4 {σ : St} {id off : Nat} : aload Tryz.prog σ 4 (.pointer (some ⟨id, off, none⟩)) = (σ.row id).bind fun r => r.1[off]? := by
 simp only [aload, ag4]; cases σ.row id <;> rfl
theorem st4 {σ : St} {id off : Nat} {x : Value} : astore Tryz.prog σ 4 (.pointer (some ⟨id, off, none⟩)) x = (σ.row id).bind fun r => stw σ id off 1 x r.1 r.2 := st_eq sz4
theorem sz5 : szOf Tryz.prog 5 = some 1 := by kernel_rfl
theorem ag5 : aggOf Tryz.prog 5 = some false := by kernel_rfl
theorem ld5 {σ : St} {id off : Nat} : aload Tryz.prog σ 5 (.pointer (some ⟨id, off, none⟩)) = (σ.row id).bind fun r => r.1[off]? := by
 simp only [aload, ag5]; cases σ.row id <;> rfl
theorem st5 {σ : St} {id off : Nat} {x : Value} : astore Tryz.prog σ 5 (.pointer (some ⟨id, off, none⟩)) x = (σ.row id).bind fun r => stw σ id off 1 x r.1 r.2 := st_eq sz5
theorem sz6 : szOf Tryz.prog 6 = some 1 := by kernel_rfl
theorem ag6 : aggOf Tryz.prog 6 = some false := by kernel_rfl
theorem ld6 {σ : St} {id off : Nat} : aload Tryz.prog σ 6 (.pointer (some ⟨id, off, none⟩)) = (σ.row id).bind fun r => r.1[off]? := by
 simp only [aload, ag6]; cases σ.row id <;> rfl
theorem st6 {σ : St} {id off : Nat} {x : Value} : astore Tryz.prog σ 6 (.pointer (some ⟨id, off, none⟩)) x = (σ.row id).bind fun r => stw σ id off 1 x r.1 r.2 := st_eq sz6
theorem sz7 : szOf Tryz.prog 7 = some 4 := by kernel_rfl
theorem ag7 : aggOf Tryz.prog 7 = some true := by kernel_rfl
theorem ld7 {σ : St} {id off : Nat} : aload Tryz.prog σ 7 (.pointer (some ⟨id, off, none⟩)) = (σ.row id).bind fun r => (cut r.1 off 4).map fun l => .agg l.toArray := by
 simp only [aload, ag7, sz7]; cases σ.row id <;> rfl
theorem st7 {σ : St} {id off : Nat} {x : Value} : astore Tryz.prog σ 7 (.pointer (some ⟨id, off, none⟩)) x = (σ.row id).bind fun r => stw σ id off 4 x r.1 r.2 := st_eq sz7
theorem sz8 : szOf Tryz.prog 8 = some 4 := by kernel_rfl
theorem ag8 : aggOf Tryz.prog 8 = some true := by kernel_rfl
theorem ld8 {σ : St} {id off : Nat} : aload Tryz.prog σ 8 (.pointer (some ⟨id, off, none⟩)) = (σ.row id).bind fun r => (cut r.1 off 4).map fun l => .agg l.toArray := by
 simp only [aload, ag8, sz8]; cases σ.row id <;> rfl
theorem st8 {σ : St} {id off : Nat} {x : Value} : astore Tryz.prog σ 8 (.pointer (some ⟨id, off, none⟩)) x = (σ.row id).bind fun r => stw σ id off 4 x r.1 r.2 := st_eq sz8
theorem sz9 : szOf Tryz.prog 9 = some 1 := by kernel_rfl
theorem ag9 : aggOf Tryz.prog 9 = some false := by kernel_rfl
theorem ld9 {σ : St} {id off : Nat} : aload Tryz.prog σ 9 (.pointer (some ⟨id, off, none⟩)) = (σ.row id).bind fun r => r.1[off]? := by
 simp only [aload, ag9]; cases σ.row id <;> rfl
theorem st9 {σ : St} {id off : Nat} {x : Value} : astore Tryz.prog σ 9 (.pointer (some ⟨id, off, none⟩)) x = (σ.row id).bind fun r => stw σ id off 1 x r.1 r.2 := st_eq sz9
theorem sz10 : szOf Tryz.prog 10 = some 1 := by kernel_rfl
theorem ag10 : aggOf Tryz.prog 10 = some false := by kernel_rfl
theorem ld10 {σ : St} {id off : Nat} : aload Tryz.prog σ 10 (.pointer (some ⟨id, off, none⟩)) = (σ.row id).bind fun r => r.1[off]? := by
 simp only [aload, ag10]; cases σ.row id <;> rfl
theorem st10 {σ : St} {id off : Nat} {x : Value} : astore Tryz.prog σ 10 (.pointer (some ⟨id, off, none⟩)) x = (σ.row id).bind fun r => stw σ id off 1 x r.1 r.2 := st_eq sz10
theorem sz11 : szOf Tryz.prog 11 = some 1 := by kernel_rfl
theorem ag11 : aggOf Tryz.prog 11 = some false := by kernel_rfl
theorem ld11 {σ : St} {id off : Nat} : aload Tryz.prog σ 11 (.pointer (some ⟨id, off, none⟩)) = (σ.row id).bind fun r => r.1[off]? := by
 simp only [aload, ag11]; cases σ.row id <;> rfl
theorem st11 {σ : St} {id off : Nat} {x : Value} : astore Tryz.prog σ 11 (.pointer (some ⟨id, off, none⟩)) x = (σ.row id).bind fun r => stw σ id off 1 x r.1 r.2 := st_eq sz11
theorem sz12 : szOf Tryz.prog 12 = some 1 := by kernel_rfl
theorem ag12 : aggOf Tryz.prog 12 = some false := by kernel_rfl
theorem ld12 {σ : St} {id off : Nat} : aload Tryz.prog σ 12 (.pointer (some ⟨id, off, none⟩)) = (σ.row id).bind fun r => r.1[off]? := by
 simp only [aload, ag12]; cases σ.row id <;> rfl
theorem st12 {σ : St} {id off : Nat} {x : Value} : astore Tryz.prog σ 12 (.pointer (some ⟨id, off, none⟩)) x = (σ.row id).bind fun r => stw σ id off 1 x r.1 r.2 := st_eq sz12
theorem sz13 : szOf Tryz.prog 13 = some 2 := by kernel_rfl
theorem ag13 : aggOf Tryz.prog 13 = some true := by kernel_rfl
theorem ld13 {σ : St} {id off : Nat} : aload Tryz.prog σ 13 (.pointer (some ⟨id, off, none⟩)) = (σ.row id).bind fun r => (cut r.1 off 2).map fun l => .agg l.toArray := by
 simp only [aload, ag13, sz13]; cases σ.row id <;> rfl
theorem st13 {σ : St} {id off : Nat} {x : Value} : astore Tryz.prog σ 13 (.pointer (some ⟨id, off, none⟩)) x = (σ.row id).bind fun r => stw σ id off 2 x r.1 r.2 := st_eq sz13
theorem sz14 : szOf Tryz.prog 14 = some 2 := by kernel_rfl
theorem ag14 : aggOf Tryz.prog 14 = some true := by kernel_rfl
theorem ld14 {σ : St} {id off : Nat} : aload Tryz.prog σ 14 (.pointer (some ⟨id, off, none⟩)) = (σ.row id).bind fun r => (cut r.1 off 2).map fun l => .agg l.toArray := by
 simp only [aload, ag14, sz14]; cases σ.row id <;> rfl
theorem st14 {σ : St} {id off : Nat} {x : Value} : astore Tryz.prog σ 14 (.pointer (some ⟨id, off, none⟩)) x = (σ.row id).bind fun r => stw σ id off 2 x r.1 r.2 := st_eq sz14
theorem sz15 : szOf Tryz.prog 15 = some 1 := by kernel_rfl
theorem ag15 : aggOf Tryz.prog 15 = some false := by kernel_rfl
theorem ld15 {σ : St} {id off : Nat} : aload Tryz.prog σ 15 (.pointer (some ⟨id, off, none⟩)) = (σ.row id).bind fun r => r.1[off]? := by
 simp only [aload, ag15]; cases σ.row id <;> rfl
theorem st15 {σ : St} {id off : Nat} {x : Value} : astore Tryz.prog σ 15 (.pointer (some ⟨id, off, none⟩)) x = (σ.row id).bind fun r => stw σ id off 1 x r.1 r.2 := st_eq sz15
theorem sz16 : szOf Tryz.prog 16 = some 1 := by kernel_rfl
theorem ag16 : aggOf Tryz.prog 16 = some false := by kernel_rfl
theorem ld16 {σ : St} {id off : Nat} : aload Tryz.prog σ 16 (.pointer (some ⟨id, off, none⟩)) = (σ.row id).bind fun r => r.1[off]? := by
 simp only [aload, ag16]; cases σ.row id <;> rfl
theorem st16 {σ : St} {id off : Nat} {x : Value} : astore Tryz.prog σ 16 (.pointer (some ⟨id, off, none⟩)) x = (σ.row id).bind fun r => stw σ id off 1 x r.1 r.2 := st_eq sz16
theorem sz17 : szOf Tryz.prog 17 = some 1 := by kernel_rfl
theorem ag17 : aggOf Tryz.prog 17 = some false := by kernel_rfl
theorem ld17 {σ : St} {id off : Nat} : aload Tryz.prog σ 17 (.pointer (some ⟨id, off, none⟩)) = (σ.row id).bind fun r => r.1[off]? := by
 simp only [aload, ag17]; cases σ.row id <;> rfl
theorem st17 {σ : St} {id off : Nat} {x : Value} : astore Tryz.prog σ 17 (.pointer (some ⟨id, off, none⟩)) x = (σ.row id).bind fun r => stw σ id off 1 x r.1 r.2 := st_eq sz17
theorem sz18 : szOf Tryz.prog 18 = some 1 := by kernel_rfl
theorem ag18 : aggOf Tryz.prog 18 = some true := by kernel_rfl
theorem ld18 {σ : St} {id off : Nat} : aload Tryz.prog σ 18 (.pointer (some ⟨id, off, none⟩)) = (σ.row id).bind fun r => (cut r.1 off 1).map fun l => .agg l.toArray := by
 simp only [aload, ag18, sz18]; cases σ.row id <;> rfl
theorem st18 {σ : St} {id off : Nat} {x : Value} : astore Tryz.prog σ 18 (.pointer (some ⟨id, off, none⟩)) x = (σ.row id).bind fun r => stw σ id off 1 x r.1 r.2 := st_eq sz18
theorem sz19 : szOf Tryz.prog 19 = some 1 := by kernel_rfl
theorem ag19 : aggOf Tryz.prog 19 = some true := by kernel_rfl
theorem ld19 {σ : St} {id off : Nat} : aload Tryz.prog σ 19 (.pointer (some ⟨id, off, none⟩)) = (σ.row id).bind fun r => (cut r.1 off 1).map fun l => .agg l.toArray := by
 simp only [aload, ag19, sz19]; cases σ.row id <;> rfl
theorem st19 {σ : St} {id off : Nat} {x : Value} : astore Tryz.prog σ 19 (.pointer (some ⟨id, off, none⟩)) x = (σ.row id).bind fun r => stw σ id off 1 x r.1 r.2 := st_eq sz19
theorem sz21 : szOf Tryz.prog 21 = some 1 := by kernel_rfl
theorem ag21 : aggOf Tryz.prog 21 = some false := by kernel_rfl
theorem ld21 {σ : St} {id off : Nat} : aload Tryz.prog σ 21 (.pointer (some ⟨id, off, none⟩)) = (σ.row id).bind fun r => r.1[off]? := by
 simp only [aload, ag21]; cases σ.row id <;> rfl
theorem st21 {σ : St} {id off : Nat} {x : Value} : astore Tryz.prog σ 21 (.pointer (some ⟨id, off, none⟩)) x = (σ.row id).bind fun r => stw σ id off 1 x r.1 r.2 := st_eq sz21
theorem sz22 : szOf Tryz.prog 22 = some 1 := by kernel_rfl
theorem ag22 : aggOf Tryz.prog 22 = some false := by kernel_rfl
theorem ld22 {σ : St} {id off : Nat} : aload Tryz.prog σ 22 (.pointer (some ⟨id, off, none⟩)) = (σ.row id).bind fun r => r.1[off]? := by
 simp only [aload, ag22]; cases σ.row id <;> rfl
theorem st22 {σ : St} {id off : Nat} {x : Value} : astore Tryz.prog σ 22 (.pointer (some ⟨id, off, none⟩)) x = (σ.row id).bind fun r => stw σ id off 1 x r.1 r.2 := st_eq sz22
theorem sz23 : szOf Tryz.prog 23 = some 1 := by kernel_rfl
theorem ag23 : aggOf Tryz.prog 23 = some false := by kernel_rfl
theorem ld23 {σ : St} {id off : Nat} : aload Tryz.prog σ 23 (.pointer (some ⟨id, off, none⟩)) = (σ.row id).bind fun r => r.1[off]? := by
 simp only [aload, ag23]; cases σ.row id <;> rfl
theorem st23 {σ : St} {id off : Nat} {x : Value} : astore Tryz.prog σ 23 (.pointer (some ⟨id, off, none⟩)) x = (σ.row id).bind fun r => stw σ id off 1 x r.1 r.2 := st_eq sz23
theorem sz24 : szOf Tryz.prog 24 = some 1 := by kernel_rfl
theorem ag24 : aggOf Tryz.prog 24 = some false := by kernel_rfl
theorem ld24 {σ : St} {id off : Nat} : aload Tryz.prog σ 24 (.pointer (some ⟨id, off, none⟩)) = (σ.row id).bind fun r => r.1[off]? := by
 simp only [aload, ag24]; cases σ.row id <;> rfl
theorem st24 {σ : St} {id off : Nat} {x : Value} : astore Tryz.prog σ 24 (.pointer (some ⟨id, off, none⟩)) x = (σ.row id).bind fun r => stw σ id off 1 x r.1 r.2 := st_eq sz24
theorem sz25 : szOf Tryz.prog 25 = some 2 := by kernel_rfl
theorem ag25 : aggOf Tryz.prog 25 = some true := by kernel_rfl
theorem ld25 {σ : St} {id off : Nat} : aload Tryz.prog σ 25 (.pointer (some ⟨id, off, none⟩)) = (σ.row id).bind fun r => (cut r.1 off 2).map fun l => .agg l.toArray := by
 simp only [aload, ag25, sz25]; cases σ.row id <;> rfl
theorem st25 {σ : St} {id off : Nat} {x : Value} : astore Tryz.prog σ 25 (.pointer (some ⟨id, off, none⟩)) x = (σ.row id).bind fun r => stw σ id off 2 x r.1 r.2 := st_eq sz25
theorem sz26 : szOf Tryz.prog 26 = some 2 := by kernel_rfl
theorem ag26 : aggOf Tryz.prog 26 = some true := by kernel_rfl
theorem ld26 {σ : St} {id off : Nat} : aload Tryz.prog σ 26 (.pointer (some ⟨id, off, none⟩)) = (σ.row id).bind fun r => (cut r.1 off 2).map fun l => .agg l.toArray := by
 simp only [aload, ag26, sz26]; cases σ.row id <;> rfl
theorem st26 {σ : St} {id off : Nat} {x : Value} : astore Tryz.prog σ 26 (.pointer (some ⟨id, off, none⟩)) x = (σ.row id).bind fun r => stw σ id off 2 x r.1 r.2 := st_eq sz26
theorem sz27 : szOf Tryz.prog 27 = some 2 := by kernel_rfl
theorem ag27 : aggOf Tryz.prog 27 = some true := by kernel_rfl
theorem ld27 {σ : St} {id off : Nat} : aload Tryz.prog σ 27 (.pointer (some ⟨id, off, none⟩)) = (σ.row id).bind fun r => (cut r.1 off 2).map fun l => .agg l.toArray := by
 simp only [aload, ag27, sz27]; cases σ.row id <;> rfl
theorem st27 {σ : St} {id off : Nat} {x : Value} : astore Tryz.prog σ 27 (.pointer (some ⟨id, off, none⟩)) x = (σ.row id).bind fun r => stw σ id off 2 x r.1 r.2 := st_eq sz27
theorem sz28 : szOf Tryz.prog 28 = some 2 := by kernel_rfl
theorem ag28 : aggOf Tryz.prog 28 = some true := by kernel_rfl
theorem ld28 {σ : St} {id off : Nat} : aload Tryz.prog σ 28 (.pointer (some ⟨id, off, none⟩)) = (σ.row id).bind fun r => (cut r.1 off 2).map fun l => .agg l.toArray := by
 simp only [aload, ag28, sz28]; cases σ.row id <;> rfl
theorem st28 {σ : St} {id off : Nat} {x : Value} : astore Tryz.prog σ 28 (.pointer (some ⟨id, off, none⟩)) x = (σ.row id).bind fun r => stw σ id off 2 x r.1 r.2 := st_eq sz28
theorem sz29 : szOf Tryz.prog 29 = some 1 := by kernel_rfl
theorem ag29 : aggOf Tryz.prog 29 = some false := by kernel_rfl
theorem ld29 {σ : St} {id off : Nat} : aload Tryz.prog σ 29 (.pointer (some ⟨id, off, none⟩)) = (σ.row id).bind fun r => r.1[off]? := by
 simp only [aload, ag29]; cases σ.row id <;> rfl
theorem st29 {σ : St} {id off : Nat} {x : Value} : astore Tryz.prog σ 29 (.pointer (some ⟨id, off, none⟩)) x = (σ.row id).bind fun r => stw σ id off 1 x r.1 r.2 := st_eq sz29
theorem sz30 : szOf Tryz.prog 30 = some 7 := by kernel_rfl
theorem ag30 : aggOf Tryz.prog 30 = some true := by kernel_rfl
theorem ld30 {σ : St} {id off : Nat} : aload Tryz.prog σ 30 (.pointer (some ⟨id, off, none⟩)) = (σ.row id).bind fun r => (cut r.1 off 7).map fun l => .agg l.toArray := by
 simp only [aload, ag30, sz30]; cases σ.row id <;> rfl
theorem st30 {σ : St} {id off : Nat} {x : Value} : astore Tryz.prog σ 30 (.pointer (some ⟨id, off, none⟩)) x = (σ.row id).bind fun r => stw σ id off 7 x r.1 r.2 := st_eq sz30
theorem sz31 : szOf Tryz.prog 31 = some 7 := by kernel_rfl
theorem ag31 : aggOf Tryz.prog 31 = some true := by kernel_rfl
theorem ld31 {σ : St} {id off : Nat} : aload Tryz.prog σ 31 (.pointer (some ⟨id, off, none⟩)) = (σ.row id).bind fun r => (cut r.1 off 7).map fun l => .agg l.toArray := by
 simp only [aload, ag31, sz31]; cases σ.row id <;> rfl
theorem st31 {σ : St} {id off : Nat} {x : Value} : astore Tryz.prog σ 31 (.pointer (some ⟨id, off, none⟩)) x = (σ.row id).bind fun r => stw σ id off 7 x r.1 r.2 := st_eq sz31
theorem sz32 : szOf Tryz.prog 32 = some 1 := by kernel_rfl
theorem ag32 : aggOf Tryz.prog 32 = some false := by kernel_rfl
theorem ld32 {σ : St} {id off : Nat} : aload Tryz.prog σ 32 (.pointer (some ⟨id, off, none⟩)) = (σ.row id).bind fun r => r.1[off]? := by
 simp only [aload, ag32]; cases σ.row id <;> rfl
theorem st32 {σ : St} {id off : Nat} {x : Value} : astore Tryz.prog σ 32 (.pointer (some ⟨id, off, none⟩)) x = (σ.row id).bind fun r => stw σ id off 1 x r.1 r.2 := st_eq sz32
theorem sz33 : szOf Tryz.prog 33 = some 11 := by kernel_rfl
theorem ag33 : aggOf Tryz.prog 33 = some true := by kernel_rfl
theorem ld33 {σ : St} {id off : Nat} : aload Tryz.prog σ 33 (.pointer (some ⟨id, off, none⟩)) = (σ.row id).bind fun r => (cut r.1 off 11).map fun l => .agg l.toArray := by
 simp only [aload, ag33, sz33]; cases σ.row id <;> rfl
theorem st33 {σ : St} {id off : Nat} {x : Value} : astore Tryz.prog σ 33 (.pointer (some ⟨id, off, none⟩)) x = (σ.row id).bind fun r => stw σ id off 11 x r.1 r.2 := st_eq sz33
theorem sz34 : szOf Tryz.prog 34 = some 11 := by kernel_rfl
theorem ag34 : aggOf Tryz.prog 34 = some true := by kernel_rfl
theorem ld34 {σ : St} {id off : Nat} : aload Tryz.prog σ 34 (.pointer (some ⟨id, off, none⟩)) = (σ.row id).bind fun r => (cut r.1 off 11).map fun l => .agg l.toArray := by
 simp only [aload, ag34, sz34]; cases σ.row id <;> rfl
theorem st34 {σ : St} {id off : Nat} {x : Value} : astore Tryz.prog σ 34 (.pointer (some ⟨id, off, none⟩)) x = (σ.row id).bind fun r => stw σ id off 11 x r.1 r.2 := st_eq sz34
theorem sz35 : szOf Tryz.prog 35 = some 1 := by kernel_rfl
theorem ag35 : aggOf Tryz.prog 35 = some false := by kernel_rfl
theorem ld35 {σ : St} {id off : Nat} : aload Tryz.prog σ 35 (.pointer (some ⟨id, off, none⟩)) = (σ.row id).bind fun r => r.1[off]? := by
 simp only [aload, ag35]; cases σ.row id <;> rfl
theorem st35 {σ : St} {id off : Nat} {x : Value} : astore Tryz.prog σ 35 (.pointer (some ⟨id, off, none⟩)) x = (σ.row id).bind fun r => stw σ id off 1 x r.1 r.2 := st_eq sz35
theorem sz36 : szOf Tryz.prog 36 = some 1 := by kernel_rfl
theorem ag36 : aggOf Tryz.prog 36 = some false := by kernel_rfl
theorem ld36 {σ : St} {id off : Nat} : aload Tryz.prog σ 36 (.pointer (some ⟨id, off, none⟩)) = (σ.row id).bind fun r => r.1[off]? := by
 simp only [aload, ag36]; cases σ.row id <;> rfl
theorem st36 {σ : St} {id off : Nat} {x : Value} : astore Tryz.prog σ 36 (.pointer (some ⟨id, off, none⟩)) x = (σ.row id).bind fun r => stw σ id off 1 x r.1 r.2 := st_eq sz36
theorem sz37 : szOf Tryz.prog 37 = some 1 := by kernel_rfl
theorem ag37 : aggOf Tryz.prog 37 = some false := by kernel_rfl
theorem ld37 {σ : St} {id off : Nat} : aload Tryz.prog σ 37 (.pointer (some ⟨id, off, none⟩)) = (σ.row id).bind fun r => r.1[off]? := by
 simp only [aload, ag37]; cases σ.row id <;> rfl
theorem st37 {σ : St} {id off : Nat} {x : Value} : astore Tryz.prog σ 37 (.pointer (some ⟨id, off, none⟩)) x = (σ.row id).bind fun r => stw σ id off 1 x r.1 r.2 := st_eq sz37
theorem sz38 : szOf Tryz.prog 38 = some 1 := by kernel_rfl
theorem ag38 : aggOf Tryz.prog 38 = some false := by kernel_rfl
theorem ld38 {σ : St} {id off : Nat} : aload Tryz.prog σ 38 (.pointer (some ⟨id, off, none⟩)) = (σ.row id).bind fun r => r.1[off]? := by
 simp only [aload, ag38]; cases σ.row id <;> rfl
theorem st38 {σ : St} {id off : Nat} {x : Value} : astore Tryz.prog σ 38 (.pointer (some ⟨id, off, none⟩)) x = (σ.row id).bind fun r => stw σ id off 1 x r.1 r.2 := st_eq sz38
theorem sz39 : szOf Tryz.prog 39 = some 1 := by kernel_rfl
theorem ag39 : aggOf Tryz.prog 39 = some false := by kernel_rfl
theorem ld39 {σ : St} {id off : Nat} : aload Tryz.prog σ 39 (.pointer (some ⟨id, off, none⟩)) = (σ.row id).bind fun r => r.1[off]? := by
 simp only [aload, ag39]; cases σ.row id <;> rfl
theorem st39 {σ : St} {id off : Nat} {x : Value} : astore Tryz.prog σ 39 (.pointer (some ⟨id, off, none⟩)) x = (σ.row id).bind fun r => stw σ id off 1 x r.1 r.2 := st_eq sz39
theorem sz40 : szOf Tryz.prog 40 = some 2 := by kernel_rfl
theorem ag40 : aggOf Tryz.prog 40 = some true := by kernel_rfl
theorem ld40 {σ : St} {id off : Nat} : aload Tryz.prog σ 40 (.pointer (some ⟨id, off, none⟩)) = (σ.row id).bind fun r => (cut r.1 off 2).map fun l => .agg l.toArray := by
 simp only [aload, ag40, sz40]; cases σ.row id <;> rfl
theorem st40 {σ : St} {id off : Nat} {x : Value} : astore Tryz.prog σ 40 (.pointer (some ⟨id, off, none⟩)) x = (σ.row id).bind fun r => stw σ id off 2 x r.1 r.2 := st_eq sz40
theorem sz41 : szOf Tryz.prog 41 = some 2 := by kernel_rfl
theorem ag41 : aggOf Tryz.prog 41 = some true := by kernel_rfl
theorem ld41 {σ : St} {id off : Nat} : aload Tryz.prog σ 41 (.pointer (some ⟨id, off, none⟩)) = (σ.row id).bind fun r => (cut r.1 off 2).map fun l => .agg l.toArray := by
 simp only [aload, ag41, sz41]; cases σ.row id <;> rfl
theorem st41 {σ : St} {id off : Nat} {x : Value} : astore Tryz.prog σ 41 (.pointer (some ⟨id, off, none⟩)) x = (σ.row id).bind fun r => stw σ id off 2 x r.1 r.2 := st_eq sz41
theorem sz42 : szOf Tryz.prog 42 = some 1 := by kernel_rfl
theorem ag42 : aggOf Tryz.prog 42 = some false := by kernel_rfl
theorem ld42 {σ : St} {id off : Nat} : aload Tryz.prog σ 42 (.pointer (some ⟨id, off, none⟩)) = (σ.row id).bind fun r => r.1[off]? := by
 simp only [aload, ag42]; cases σ.row id <;> rfl
theorem st42 {σ : St} {id off : Nat} {x : Value} : astore Tryz.prog σ 42 (.pointer (some ⟨id, off, none⟩)) x = (σ.row id).bind fun r => stw σ id off 1 x r.1 r.2 := st_eq sz42
theorem sz44 : szOf Tryz.prog 44 = some 1 := by kernel_rfl
theorem ag44 : aggOf Tryz.prog 44 = some false := by kernel_rfl
theorem ld44 {σ : St} {id off : Nat} : aload Tryz.prog σ 44 (.pointer (some ⟨id, off, none⟩)) = (σ.row id).bind fun r => r.1[off]? := by
 simp only [aload, ag44]; cases σ.row id <;> rfl
theorem st44 {σ : St} {id off : Nat} {x : Value} : astore Tryz.prog σ 44 (.pointer (some ⟨id, off, none⟩)) x = (σ.row id).bind fun r => stw σ id off 1 x r.1 r.2 := st_eq sz44
theorem sz45 : szOf Tryz.prog 45 = some 1 := by kernel_rfl
theorem ag45 : aggOf Tryz.prog 45 = some false := by kernel_rfl
theorem ld45 {σ : St} {id off : Nat} : aload Tryz.prog σ 45 (.pointer (some ⟨id, off, none⟩)) = (σ.row id).bind fun r => r.1[off]? := by
 simp only [aload, ag45]; cases σ.row id <;> rfl
theorem st45 {σ : St} {id off : Nat} {x : Value} : astore Tryz.prog σ 45 (.pointer (some ⟨id, off, none⟩)) x = (σ.row id).bind fun r => stw σ id off 1 x r.1 r.2 := st_eq sz45
theorem sz46 : szOf Tryz.prog 46 = some 1 := by kernel_rfl
theorem ag46 : aggOf Tryz.prog 46 = some false := by kernel_rfl
theorem ld46 {σ : St} {id off : Nat} : aload Tryz.prog σ 46 (.pointer (some ⟨id, off, none⟩)) = (σ.row id).bind fun r => r.1[off]? := by
 simp only [aload, ag46]; cases σ.row id <;> rfl
theorem st46 {σ : St} {id off : Nat} {x : Value} : astore Tryz.prog σ 46 (.pointer (some ⟨id, off, none⟩)) x = (σ.row id).bind fun r => stw σ id off 1 x r.1 r.2 := st_eq sz46
theorem sz48 : szOf Tryz.prog 48 = some 1 := by kernel_rfl
theorem ag48 : aggOf Tryz.prog 48 = some false := by kernel_rfl
theorem ld48 {σ : St} {id off : Nat} : aload Tryz.prog σ 48 (.pointer (some ⟨id, off, none⟩)) = (σ.row id).bind fun r => r.1[off]? := by
 simp only [aload, ag48]; cases σ.row id <;> rfl
theorem st48 {σ : St} {id off : Nat} {x : Value} : astore Tryz.prog σ 48 (.pointer (some ⟨id, off, none⟩)) x = (σ.row id).bind fun r => stw σ id off 1 x r.1 r.2 := st_eq sz48
theorem sz49 : szOf Tryz.prog 49 = some 1 := by kernel_rfl
theorem ag49 : aggOf Tryz.prog 49 = some false := by kernel_rfl
theorem ld49 {σ : St} {id off : Nat} : aload Tryz.prog σ 49 (.pointer (some ⟨id, off, none⟩)) = (σ.row id).bind fun r => r.1[off]? := by
 simp only [aload, ag49]; cases σ.row id <;> rfl
theorem st49 {σ : St} {id off : Nat} {x : Value} : astore Tryz.prog σ 49 (.pointer (some ⟨id, off, none⟩)) x = (σ.row id).bind fun r => stw σ id off 1 x r.1 r.2 := st_eq sz49
theorem sz50 : szOf Tryz.prog 50 = some 1 := by kernel_rfl
theorem ag50 : aggOf Tryz.prog 50 = some false := by kernel_rfl
theorem ld50 {σ : St} {id off : Nat} : aload Tryz.prog σ 50 (.pointer (some ⟨id, off, none⟩)) = (σ.row id).bind fun r => r.1[off]? := by
 simp only [aload, ag50]; cases σ.row id <;> rfl
theorem st50 {σ : St} {id off : Nat} {x : Value} : astore Tryz.prog σ 50 (.pointer (some ⟨id, off, none⟩)) x = (σ.row id).bind fun r => stw σ id off 1 x r.1 r.2 := st_eq sz50
theorem sz51 : szOf Tryz.prog 51 = some 1 := by kernel_rfl
theorem ag51 : aggOf Tryz.prog 51 = some false := by kernel_rfl
theorem ld51 {σ : St} {id off : Nat} : aload Tryz.prog σ 51 (.pointer (some ⟨id, off, none⟩)) = (σ.row id).bind fun r => r.1[off]? := by
 simp only [aload, ag51]; cases σ.row id <;> rfl
theorem st51 {σ : St} {id off : Nat} {x : Value} : astore Tryz.prog σ 51 (.pointer (some ⟨id, off, none⟩)) x = (σ.row id).bind fun r => stw σ id off 1 x r.1 r.2 := st_eq sz51
theorem sz52 : szOf Tryz.prog 52 = some 1 := by kernel_rfl
theorem ag52 : aggOf Tryz.prog 52 = some false := by kernel_rfl
theorem ld52 {σ : St} {id off : Nat} : aload Tryz.prog σ 52 (.pointer (some ⟨id, off, none⟩)) = (σ.row id).bind fun r => r.1[off]? := by
 simp only [aload, ag52]; cases σ.row id <;> rfl
theorem st52 {σ : St} {id off : Nat} {x : Value} : astore Tryz.prog σ 52 (.pointer (some ⟨id, off, none⟩)) x = (σ.row id).bind fun r => stw σ id off 1 x r.1 r.2 := st_eq sz52
theorem sz53 : szOf Tryz.prog 53 = some 3 := by kernel_rfl
theorem ag53 : aggOf Tryz.prog 53 = some true := by kernel_rfl
theorem ld53 {σ : St} {id off : Nat} : aload Tryz.prog σ 53 (.pointer (some ⟨id, off, none⟩)) = (σ.row id).bind fun r => (cut r.1 off 3).map fun l => .agg l.toArray := by
 simp only [aload, ag53, sz53]; cases σ.row id <;> rfl
theorem st53 {σ : St} {id off : Nat} {x : Value} : astore Tryz.prog σ 53 (.pointer (some ⟨id, off, none⟩)) x = (σ.row id).bind fun r => stw σ id off 3 x r.1 r.2 := st_eq sz53
theorem sz54 : szOf Tryz.prog 54 = some 3 := by kernel_rfl
theorem ag54 : aggOf Tryz.prog 54 = some true := by kernel_rfl
theorem ld54 {σ : St} {id off : Nat} : aload Tryz.prog σ 54 (.pointer (some ⟨id, off, none⟩)) = (σ.row id).bind fun r => (cut r.1 off 3).map fun l => .agg l.toArray := by
 simp only [aload, ag54, sz54]; cases σ.row id <;> rfl
theorem st54 {σ : St} {id off : Nat} {x : Value} : astore Tryz.prog σ 54 (.pointer (some ⟨id, off, none⟩)) x = (σ.row id).bind fun r => stw σ id off 3 x r.1 r.2 := st_eq sz54
theorem sz55 : szOf Tryz.prog 55 = some 1 := by kernel_rfl
theorem ag55 : aggOf Tryz.prog 55 = some false := by kernel_rfl
theorem ld55 {σ : St} {id off : Nat} : aload Tryz.prog σ 55 (.pointer (some ⟨id, off, none⟩)) = (σ.row id).bind fun r => r.1[off]? := by
 simp only [aload, ag55]; cases σ.row id <;> rfl
theorem st55 {σ : St} {id off : Nat} {x : Value} : astore Tryz.prog σ 55 (.pointer (some ⟨id, off, none⟩)) x = (σ.row id).bind fun r => stw σ id off 1 x r.1 r.2 := st_eq sz55
theorem sz56 : szOf Tryz.prog 56 = some 1 := by kernel_rfl
theorem ag56 : aggOf Tryz.prog 56 = some false := by kernel_rfl
theorem ld56 {σ : St} {id off : Nat} : aload Tryz.prog σ 56 (.pointer (some ⟨id, off, none⟩)) = (σ.row id).bind fun r => r.1[off]? := by
 simp only [aload, ag56]; cases σ.row id <;> rfl
theorem st56 {σ : St} {id off : Nat} {x : Value} : astore Tryz.prog σ 56 (.pointer (some ⟨id, off, none⟩)) x = (σ.row id).bind fun r => stw σ id off 1 x r.1 r.2 := st_eq sz56
theorem sz57 : szOf Tryz.prog 57 = some 1 := by kernel_rfl
theorem ag57 : aggOf Tryz.prog 57 = some false := by kernel_rfl
theorem ld57 {σ : St} {id off : Nat} : aload Tryz.prog σ 57 (.pointer (some ⟨id, off, none⟩)) = (σ.row id).bind fun r => r.1[off]? := by
 simp only [aload, ag57]; cases σ.row id <;> rfl
theorem st57 {σ : St} {id off : Nat} {x : Value} : astore Tryz.prog σ 57 (.pointer (some ⟨id, off, none⟩)) x = (σ.row id).bind fun r => stw σ id off 1 x r.1 r.2 := st_eq sz57
theorem sz58 : szOf Tryz.prog 58 = some 1 := by kernel_rfl
theorem ag58 : aggOf Tryz.prog 58 = some false := by kernel_rfl
theorem ld58 {σ : St} {id off : Nat} : aload Tryz.prog σ 58 (.pointer (some ⟨id, off, none⟩)) = (σ.row id).bind fun r => r.1[off]? := by
 simp only [aload, ag58]; cases σ.row id <;> rfl
theorem st58 {σ : St} {id off : Nat} {x : Value} : astore Tryz.prog σ 58 (.pointer (some ⟨id, off, none⟩)) x = (σ.row id).bind fun r => stw σ id off 1 x r.1 r.2 := st_eq sz58
theorem sz59 : szOf Tryz.prog 59 = some 1 := by kernel_rfl
theorem ag59 : aggOf Tryz.prog 59 = some false := by kernel_rfl
theorem ld59 {σ : St} {id off : Nat} : aload Tryz.prog σ 59 (.pointer (some ⟨id, off, none⟩)) = (σ.row id).bind fun r => r.1[off]? := by
 simp only [aload, ag59]; cases σ.row id <;> rfl
theorem st59 {σ : St} {id off : Nat} {x : Value} : astore Tryz.prog σ 59 (.pointer (some ⟨id, off, none⟩)) x = (σ.row id).bind fun r => stw σ id off 1 x r.1 r.2 := st_eq sz59
theorem sz60 : szOf Tryz.prog 60 = some 1 := by kernel_rfl
theorem ag60 : aggOf Tryz.prog 60 = some false := by kernel_rfl
theorem ld60 {σ : St} {id off : Nat} : aload Tryz.prog σ 60 (.pointer (some ⟨id, off, none⟩)) = (σ.row id).bind fun r => r.1[off]? := by
 simp only [aload, ag60]; cases σ.row id <;> rfl
theorem st60 {σ : St} {id off : Nat} {x : Value} : astore Tryz.prog σ 60 (.pointer (some ⟨id, off, none⟩)) x = (σ.row id).bind fun r => stw σ id off 1 x r.1 r.2 := st_eq sz60
theorem sz61 : szOf Tryz.prog 61 = some 1 := by kernel_rfl
theorem ag61 : aggOf Tryz.prog 61 = some false := by kernel_rfl
theorem ld61 {σ : St} {id off : Nat} : aload Tryz.prog σ 61 (.pointer (some ⟨id, off, none⟩)) = (σ.row id).bind fun r => r.1[off]? := by
 simp only [aload, ag61]; cases σ.row id <;> rfl
theorem st61 {σ : St} {id off : Nat} {x : Value} : astore Tryz.prog σ 61 (.pointer (some ⟨id, off, none⟩)) x = (σ.row id).bind fun r => stw σ id off 1 x r.1 r.2 := st_eq sz61
theorem sz62 : szOf Tryz.prog 62 = some 1 := by kernel_rfl
theorem ag62 : aggOf Tryz.prog 62 = some false := by kernel_rfl
theorem ld62 {σ : St} {id off : Nat} : aload Tryz.prog σ 62 (.pointer (some ⟨id, off, none⟩)) = (σ.row id).bind fun r => r.1[off]? := by
 simp only [aload, ag62]; cases σ.row id <;> rfl
theorem st62 {σ : St} {id off : Nat} {x : Value} : astore Tryz.prog σ 62 (.pointer (some ⟨id, off, none⟩)) x = (σ.row id).bind fun r => stw σ id off 1 x r.1 r.2 := st_eq sz62
theorem sz63 : szOf Tryz.prog 63 = some 1 := by kernel_rfl
theorem ag63 : aggOf Tryz.prog 63 = some false := by kernel_rfl
theorem ld63 {σ : St} {id off : Nat} : aload Tryz.prog σ 63 (.pointer (some ⟨id, off, none⟩)) = (σ.row id).bind fun r => r.1[off]? := by
 simp only [aload, ag63]; cases σ.row id <;> rfl
theorem st63 {σ : St} {id off : Nat} {x : Value} : astore Tryz.prog σ 63 (.pointer (some ⟨id, off, none⟩)) x = (σ.row id).bind fun r => stw σ id off 1 x r.1 r.2 := st_eq sz63
theorem sz64 : szOf Tryz.prog 64 = some 1 := by kernel_rfl
theorem ag64 : aggOf Tryz.prog 64 = some false := by kernel_rfl
theorem ld64 {σ : St} {id off : Nat} : aload Tryz.prog σ 64 (.pointer (some ⟨id, off, none⟩)) = (σ.row id).bind fun r => r.1[off]? := by
 simp only [aload, ag64]; cases σ.row id <;> rfl
theorem st64 {σ : St} {id off : Nat} {x : Value} : astore Tryz.prog σ 64 (.pointer (some ⟨id, off, none⟩)) x = (σ.row id).bind fun r => stw σ id off 1 x r.1 r.2 := st_eq sz64
theorem sz65 : szOf Tryz.prog 65 = some 1 := by kernel_rfl
theorem ag65 : aggOf Tryz.prog 65 = some false := by kernel_rfl
theorem ld65 {σ : St} {id off : Nat} : aload Tryz.prog σ 65 (.pointer (some ⟨id, off, none⟩)) = (σ.row id).bind fun r => r.1[off]? := by
 simp only [aload, ag65]; cases σ.row id <;> rfl
theorem st65 {σ : St} {id off : Nat} {x : Value} : astore Tryz.prog σ 65 (.pointer (some ⟨id, off, none⟩)) x = (σ.row id).bind fun r => stw σ id off 1 x r.1 r.2 := st_eq sz65
theorem sz66 : szOf Tryz.prog 66 = some 1 := by kernel_rfl
theorem ag66 : aggOf Tryz.prog 66 = some false := by kernel_rfl
theorem ld66 {σ : St} {id off : Nat} : aload Tryz.prog σ 66 (.pointer (some ⟨id, off, none⟩)) = (σ.row id).bind fun r => r.1[off]? := by
 simp only [aload, ag66]; cases σ.row id <;> rfl
theorem st66 {σ : St} {id off : Nat} {x : Value} : astore Tryz.prog σ 66 (.pointer (some ⟨id, off, none⟩)) x = (σ.row id).bind fun r => stw σ id off 1 x r.1 r.2 := st_eq sz66
theorem sz67 : szOf Tryz.prog 67 = some 1 := by kernel_rfl
theorem ag67 : aggOf Tryz.prog 67 = some false := by kernel_rfl
theorem ld67 {σ : St} {id off : Nat} : aload Tryz.prog σ 67 (.pointer (some ⟨id, off, none⟩)) = (σ.row id).bind fun r => r.1[off]? := by
 simp only [aload, ag67]; cases σ.row id <;> rfl
theorem st67 {σ : St} {id off : Nat} {x : Value} : astore Tryz.prog σ 67 (.pointer (some ⟨id, off, none⟩)) x = (σ.row id).bind fun r => stw σ id off 1 x r.1 r.2 := st_eq sz67
theorem sz68 : szOf Tryz.prog 68 = some 1 := by kernel_rfl
theorem ag68 : aggOf Tryz.prog 68 = some false := by kernel_rfl
theorem ld68 {σ : St} {id off : Nat} : aload Tryz.prog σ 68 (.pointer (some ⟨id, off, none⟩)) = (σ.row id).bind fun r => r.1[off]? := by
 simp only [aload, ag68]; cases σ.row id <;> rfl
theorem st68 {σ : St} {id off : Nat} {x : Value} : astore Tryz.prog σ 68 (.pointer (some ⟨id, off, none⟩)) x = (σ.row id).bind fun r => stw σ id off 1 x r.1 r.2 := st_eq sz68
theorem sz69 : szOf Tryz.prog 69 = some 1 := by kernel_rfl
theorem ag69 : aggOf Tryz.prog 69 = some false := by kernel_rfl
theorem ld69 {σ : St} {id off : Nat} : aload Tryz.prog σ 69 (.pointer (some ⟨id, off, none⟩)) = (σ.row id).bind fun r => r.1[off]? := by
 simp only [aload, ag69]; cases σ.row id <;> rfl
theorem st69 {σ : St} {id off : Nat} {x : Value} : astore Tryz.prog σ 69 (.pointer (some ⟨id, off, none⟩)) x = (σ.row id).bind fun r => stw σ id off 1 x r.1 r.2 := st_eq sz69
theorem sz70 : szOf Tryz.prog 70 = some 1 := by kernel_rfl
theorem ag70 : aggOf Tryz.prog 70 = some false := by kernel_rfl
theorem ld70 {σ : St} {id off : Nat} : aload Tryz.prog σ 70 (.pointer (some ⟨id, off, none⟩)) = (σ.row id).bind fun r => r.1[off]? := by
 simp only [aload, ag70]; cases σ.row id <;> rfl
theorem st70 {σ : St} {id off : Nat} {x : Value} : astore Tryz.prog σ 70 (.pointer (some ⟨id, off, none⟩)) x = (σ.row id).bind fun r => stw σ id off 1 x r.1 r.2 := st_eq sz70
theorem sz71 : szOf Tryz.prog 71 = some 1 := by kernel_rfl
theorem ag71 : aggOf Tryz.prog 71 = some false := by kernel_rfl
theorem ld71 {σ : St} {id off : Nat} : aload Tryz.prog σ 71 (.pointer (some ⟨id, off, none⟩)) = (σ.row id).bind fun r => r.1[off]? := by
 simp only [aload, ag71]; cases σ.row id <;> rfl
theorem st71 {σ : St} {id off : Nat} {x : Value} : astore Tryz.prog σ 71 (.pointer (some ⟨id, off, none⟩)) x = (σ.row id).bind fun r => stw σ id off 1 x r.1 r.2 := st_eq sz71
theorem sz72 : szOf Tryz.prog 72 = some 1 := by kernel_rfl
theorem ag72 : aggOf Tryz.prog 72 = some false := by kernel_rfl
theorem ld72 {σ : St} {id off : Nat} : aload Tryz.prog σ 72 (.pointer (some ⟨id, off, none⟩)) = (σ.row id).bind fun r => r.1[off]? := by
 simp only [aload, ag72]; cases σ.row id <;> rfl
theorem st72 {σ : St} {id off : Nat} {x : Value} : astore Tryz.prog σ 72 (.pointer (some ⟨id, off, none⟩)) x = (σ.row id).bind fun r => stw σ id off 1 x r.1 r.2 := st_eq sz72
theorem sz73 : szOf Tryz.prog 73 = some 1 := by kernel_rfl
theorem ag73 : aggOf Tryz.prog 73 = some false := by kernel_rfl
theorem ld73 {σ : St} {id off : Nat} : aload Tryz.prog σ 73 (.pointer (some ⟨id, off, none⟩)) = (σ.row id).bind fun r => r.1[off]? := by
 simp only [aload, ag73]; cases σ.row id <;> rfl
theorem st73 {σ : St} {id off : Nat} {x : Value} : astore Tryz.prog σ 73 (.pointer (some ⟨id, off, none⟩)) x = (σ.row id).bind fun r => stw σ id off 1 x r.1 r.2 := st_eq sz73
theorem sz74 : szOf Tryz.prog 74 = some 1 := by kernel_rfl
theorem ag74 : aggOf Tryz.prog 74 = some false := by kernel_rfl
theorem ld74 {σ : St} {id off : Nat} : aload Tryz.prog σ 74 (.pointer (some ⟨id, off, none⟩)) = (σ.row id).bind fun r => r.1[off]? := by
 simp only [aload, ag74]; cases σ.row id <;> rfl
theorem st74 {σ : St} {id off : Nat} {x : Value} : astore Tryz.prog σ 74 (.pointer (some ⟨id, off, none⟩)) x = (σ.row id).bind fun r => stw σ id off 1 x r.1 r.2 := st_eq sz74
theorem sz75 : szOf Tryz.prog 75 = some 1 := by kernel_rfl
theorem ag75 : aggOf Tryz.prog 75 = some false := by kernel_rfl
theorem ld75 {σ : St} {id off : Nat} : aload Tryz.prog σ 75 (.pointer (some ⟨id, off, none⟩)) = (σ.row id).bind fun r => r.1[off]? := by
 simp only [aload, ag75]; cases σ.row id <;> rfl
theorem st75 {σ : St} {id off : Nat} {x : Value} : astore Tryz.prog σ 75 (.pointer (some ⟨id, off, none⟩)) x = (σ.row id).bind fun r => stw σ id off 1 x r.1 r.2 := st_eq sz75
theorem sz76 : szOf Tryz.prog 76 = some 1 := by kernel_rfl
theorem ag76 : aggOf Tryz.prog 76 = some false := by kernel_rfl
theorem ld76 {σ : St} {id off : Nat} : aload Tryz.prog σ 76 (.pointer (some ⟨id, off, none⟩)) = (σ.row id).bind fun r => r.1[off]? := by
 simp only [aload, ag76]; cases σ.row id <;> rfl
theorem st76 {σ : St} {id off : Nat} {x : Value} : astore Tryz.prog σ 76 (.pointer (some ⟨id, off, none⟩)) x = (σ.row id).bind fun r => stw σ id off 1 x r.1 r.2 := st_eq sz76
theorem sz77 : szOf Tryz.prog 77 = some 1 := by kernel_rfl
theorem ag77 : aggOf Tryz.prog 77 = some false := by kernel_rfl
theorem ld77 {σ : St} {id off : Nat} : aload Tryz.prog σ 77 (.pointer (some ⟨id, off, none⟩)) = (σ.row id).bind fun r => r.1[off]? := by
 simp only [aload, ag77]; cases σ.row id <;> rfl
theorem st77 {σ : St} {id off : Nat} {x : Value} : astore Tryz.prog σ 77 (.pointer (some ⟨id, off, none⟩)) x = (σ.row id).bind fun r => stw σ id off 1 x r.1 r.2 := st_eq sz77
theorem sz78 : szOf Tryz.prog 78 = some 1 := by kernel_rfl
theorem ag78 : aggOf Tryz.prog 78 = some false := by kernel_rfl
theorem ld78 {σ : St} {id off : Nat} : aload Tryz.prog σ 78 (.pointer (some ⟨id, off, none⟩)) = (σ.row id).bind fun r => r.1[off]? := by
 simp only [aload, ag78]; cases σ.row id <;> rfl
theorem st78 {σ : St} {id off : Nat} {x : Value} : astore Tryz.prog σ 78 (.pointer (some ⟨id, off, none⟩)) x = (σ.row id).bind fun r => stw σ id off 1 x r.1 r.2 := st_eq sz78
theorem sz79 : szOf Tryz.prog 79 = some 1 := by kernel_rfl
theorem ag79 : aggOf Tryz.prog 79 = some false := by kernel_rfl
theorem ld79 {σ : St} {id off : Nat} : aload Tryz.prog σ 79 (.pointer (some ⟨id, off, none⟩)) = (σ.row id).bind fun r => r.1[off]? := by
 simp only [aload, ag79]; cases σ.row id <;> rfl
theorem st79 {σ : St} {id off : Nat} {x : Value} : astore Tryz.prog σ 79 (.pointer (some ⟨id, off, none⟩)) x = (σ.row id).bind fun r => stw σ id off 1 x r.1 r.2 := st_eq sz79
theorem sz80 : szOf Tryz.prog 80 = some 1 := by kernel_rfl
theorem ag80 : aggOf Tryz.prog 80 = some false := by kernel_rfl
theorem ld80 {σ : St} {id off : Nat} : aload Tryz.prog σ 80 (.pointer (some ⟨id, off, none⟩)) = (σ.row id).bind fun r => r.1[off]? := by
 simp only [aload, ag80]; cases σ.row id <;> rfl
theorem st80 {σ : St} {id off : Nat} {x : Value} : astore Tryz.prog σ 80 (.pointer (some ⟨id, off, none⟩)) x = (σ.row id).bind fun r => stw σ id off 1 x r.1 r.2 := st_eq sz80
theorem sz81 : szOf Tryz.prog 81 = some 1 := by kernel_rfl
theorem ag81 : aggOf Tryz.prog 81 = some false := by kernel_rfl
theorem ld81 {σ : St} {id off : Nat} : aload Tryz.prog σ 81 (.pointer (some ⟨id, off, none⟩)) = (σ.row id).bind fun r => r.1[off]? := by
 simp only [aload, ag81]; cases σ.row id <;> rfl
theorem st81 {σ : St} {id off : Nat} {x : Value} : astore Tryz.prog σ 81 (.pointer (some ⟨id, off, none⟩)) x = (σ.row id).bind fun r => stw σ id off 1 x r.1 r.2 := st_eq sz81
theorem sz82 : szOf Tryz.prog 82 = some 1 := by kernel_rfl
theorem ag82 : aggOf Tryz.prog 82 = some false := by kernel_rfl
theorem ld82 {σ : St} {id off : Nat} : aload Tryz.prog σ 82 (.pointer (some ⟨id, off, none⟩)) = (σ.row id).bind fun r => r.1[off]? := by
 simp only [aload, ag82]; cases σ.row id <;> rfl
theorem st82 {σ : St} {id off : Nat} {x : Value} : astore Tryz.prog σ 82 (.pointer (some ⟨id, off, none⟩)) x = (σ.row id).bind fun r => stw σ id off 1 x r.1 r.2 := st_eq sz82
theorem sz83 : szOf Tryz.prog 83 = some 1 := by kernel_rfl
theorem ag83 : aggOf Tryz.prog 83 = some false := by kernel_rfl
theorem ld83 {σ : St} {id off : Nat} : aload Tryz.prog σ 83 (.pointer (some ⟨id, off, none⟩)) = (σ.row id).bind fun r => r.1[off]? := by
 simp only [aload, ag83]; cases σ.row id <;> rfl
theorem st83 {σ : St} {id off : Nat} {x : Value} : astore Tryz.prog σ 83 (.pointer (some ⟨id, off, none⟩)) x = (σ.row id).bind fun r => stw σ id off 1 x r.1 r.2 := st_eq sz83
theorem sz84 : szOf Tryz.prog 84 = some 1 := by kernel_rfl
theorem ag84 : aggOf Tryz.prog 84 = some false := by kernel_rfl
theorem ld84 {σ : St} {id off : Nat} : aload Tryz.prog σ 84 (.pointer (some ⟨id, off, none⟩)) = (σ.row id).bind fun r => r.1[off]? := by
 simp only [aload, ag84]; cases σ.row id <;> rfl
theorem st84 {σ : St} {id off : Nat} {x : Value} : astore Tryz.prog σ 84 (.pointer (some ⟨id, off, none⟩)) x = (σ.row id).bind fun r => stw σ id off 1 x r.1 r.2 := st_eq sz84
theorem sz85 : szOf Tryz.prog 85 = some 1 := by kernel_rfl
theorem ag85 : aggOf Tryz.prog 85 = some false := by kernel_rfl
theorem ld85 {σ : St} {id off : Nat} : aload Tryz.prog σ 85 (.pointer (some ⟨id, off, none⟩)) = (σ.row id).bind fun r => r.1[off]? := by
 simp only [aload, ag85]; cases σ.row id <;> rfl
theorem st85 {σ : St} {id off : Nat} {x : Value} : astore Tryz.prog σ 85 (.pointer (some ⟨id, off, none⟩)) x = (σ.row id).bind fun r => stw σ id off 1 x r.1 r.2 := st_eq sz85
theorem sz86 : szOf Tryz.prog 86 = some 1 := by kernel_rfl
theorem ag86 : aggOf Tryz.prog 86 = some false := by kernel_rfl
theorem ld86 {σ : St} {id off : Nat} : aload Tryz.prog σ 86 (.pointer (some ⟨id, off, none⟩)) = (σ.row id).bind fun r => r.1[off]? := by
 simp only [aload, ag86]; cases σ.row id <;> rfl
theorem st86 {σ : St} {id off : Nat} {x : Value} : astore Tryz.prog σ 86 (.pointer (some ⟨id, off, none⟩)) x = (σ.row id).bind fun r => stw σ id off 1 x r.1 r.2 := st_eq sz86
theorem sz87 : szOf Tryz.prog 87 = some 1 := by kernel_rfl
theorem ag87 : aggOf Tryz.prog 87 = some false := by kernel_rfl
theorem ld87 {σ : St} {id off : Nat} : aload Tryz.prog σ 87 (.pointer (some ⟨id, off, none⟩)) = (σ.row id).bind fun r => r.1[off]? := by
 simp only [aload, ag87]; cases σ.row id <;> rfl
theorem st87 {σ : St} {id off : Nat} {x : Value} : astore Tryz.prog σ 87 (.pointer (some ⟨id, off, none⟩)) x = (σ.row id).bind fun r => stw σ id off 1 x r.1 r.2 := st_eq sz87
theorem sz88 : szOf Tryz.prog 88 = some 1 := by kernel_rfl
theorem ag88 : aggOf Tryz.prog 88 = some false := by kernel_rfl
theorem ld88 {σ : St} {id off : Nat} : aload Tryz.prog σ 88 (.pointer (some ⟨id, off, none⟩)) = (σ.row id).bind fun r => r.1[off]? := by
 simp only [aload, ag88]; cases σ.row id <;> rfl
theorem st88 {σ : St} {id off : Nat} {x : Value} : astore Tryz.prog σ 88 (.pointer (some ⟨id, off, none⟩)) x = (σ.row id).bind fun r => stw σ id off 1 x r.1 r.2 := st_eq sz88
theorem sz89 : szOf Tryz.prog 89 = some 1 := by kernel_rfl
theorem ag89 : aggOf Tryz.prog 89 = some false := by kernel_rfl
theorem ld89 {σ : St} {id off : Nat} : aload Tryz.prog σ 89 (.pointer (some ⟨id, off, none⟩)) = (σ.row id).bind fun r => r.1[off]? := by
 simp only [aload, ag89]; cases σ.row id <;> rfl
theorem st89 {σ : St} {id off : Nat} {x : Value} : astore Tryz.prog σ 89 (.pointer (some ⟨id, off, none⟩)) x = (σ.row id).bind fun r => stw σ id off 1 x r.1 r.2 := st_eq sz89
theorem sz90 : szOf Tryz.prog 90 = some 1 := by kernel_rfl
theorem ag90 : aggOf Tryz.prog 90 = some false := by kernel_rfl
theorem ld90 {σ : St} {id off : Nat} : aload Tryz.prog σ 90 (.pointer (some ⟨id, off, none⟩)) = (σ.row id).bind fun r => r.1[off]? := by
 simp only [aload, ag90]; cases σ.row id <;> rfl
theorem st90 {σ : St} {id off : Nat} {x : Value} : astore Tryz.prog σ 90 (.pointer (some ⟨id, off, none⟩)) x = (σ.row id).bind fun r => stw σ id off 1 x r.1 r.2 := st_eq sz90
theorem sz91 : szOf Tryz.prog 91 = some 1 := by kernel_rfl
theorem ag91 : aggOf Tryz.prog 91 = some false := by kernel_rfl
theorem ld91 {σ : St} {id off : Nat} : aload Tryz.prog σ 91 (.pointer (some ⟨id, off, none⟩)) = (σ.row id).bind fun r => r.1[off]? := by
 simp only [aload, ag91]; cases σ.row id <;> rfl
theorem st91 {σ : St} {id off : Nat} {x : Value} : astore Tryz.prog σ 91 (.pointer (some ⟨id, off, none⟩)) x = (σ.row id).bind fun r => stw σ id off 1 x r.1 r.2 := st_eq sz91
theorem sz92 : szOf Tryz.prog 92 = some 1 := by kernel_rfl
theorem ag92 : aggOf Tryz.prog 92 = some false := by kernel_rfl
theorem ld92 {σ : St} {id off : Nat} : aload Tryz.prog σ 92 (.pointer (some ⟨id, off, none⟩)) = (σ.row id).bind fun r => r.1[off]? := by
 simp only [aload, ag92]; cases σ.row id <;> rfl
theorem st92 {σ : St} {id off : Nat} {x : Value} : astore Tryz.prog σ 92 (.pointer (some ⟨id, off, none⟩)) x = (σ.row id).bind fun r => stw σ id off 1 x r.1 r.2 := st_eq sz92
theorem sz93 : szOf Tryz.prog 93 = some 1 := by kernel_rfl
theorem ag93 : aggOf Tryz.prog 93 = some true := by kernel_rfl
theorem ld93 {σ : St} {id off : Nat} : aload Tryz.prog σ 93 (.pointer (some ⟨id, off, none⟩)) = (σ.row id).bind fun r => (cut r.1 off 1).map fun l => .agg l.toArray := by
 simp only [aload, ag93, sz93]; cases σ.row id <;> rfl
theorem st93 {σ : St} {id off : Nat} {x : Value} : astore Tryz.prog σ 93 (.pointer (some ⟨id, off, none⟩)) x = (σ.row id).bind fun r => stw σ id off 1 x r.1 r.2 := st_eq sz93
theorem sz94 : szOf Tryz.prog 94 = some 1 := by kernel_rfl
theorem ag94 : aggOf Tryz.prog 94 = some true := by kernel_rfl
theorem ld94 {σ : St} {id off : Nat} : aload Tryz.prog σ 94 (.pointer (some ⟨id, off, none⟩)) = (σ.row id).bind fun r => (cut r.1 off 1).map fun l => .agg l.toArray := by
 simp only [aload, ag94, sz94]; cases σ.row id <;> rfl
theorem st94 {σ : St} {id off : Nat} {x : Value} : astore Tryz.prog σ 94 (.pointer (some ⟨id, off, none⟩)) x = (σ.row id).bind fun r => stw σ id off 1 x r.1 r.2 := st_eq sz94
theorem sz95 : szOf Tryz.prog 95 = some 1 := by kernel_rfl
theorem ag95 : aggOf Tryz.prog 95 = some false := by kernel_rfl
theorem ld95 {σ : St} {id off : Nat} : aload Tryz.prog σ 95 (.pointer (some ⟨id, off, none⟩)) = (σ.row id).bind fun r => r.1[off]? := by
 simp only [aload, ag95]; cases σ.row id <;> rfl
theorem st95 {σ : St} {id off : Nat} {x : Value} : astore Tryz.prog σ 95 (.pointer (some ⟨id, off, none⟩)) x = (σ.row id).bind fun r => stw σ id off 1 x r.1 r.2 := st_eq sz95
theorem sz96 : szOf Tryz.prog 96 = some 1 := by kernel_rfl
theorem ag96 : aggOf Tryz.prog 96 = some false := by kernel_rfl
theorem ld96 {σ : St} {id off : Nat} : aload Tryz.prog σ 96 (.pointer (some ⟨id, off, none⟩)) = (σ.row id).bind fun r => r.1[off]? := by
 simp only [aload, ag96]; cases σ.row id <;> rfl
theorem st96 {σ : St} {id off : Nat} {x : Value} : astore Tryz.prog σ 96 (.pointer (some ⟨id, off, none⟩)) x = (σ.row id).bind fun r => stw σ id off 1 x r.1 r.2 := st_eq sz96
theorem sz97 : szOf Tryz.prog 97 = some 1 := by kernel_rfl
theorem ag97 : aggOf Tryz.prog 97 = some false := by kernel_rfl
theorem ld97 {σ : St} {id off : Nat} : aload Tryz.prog σ 97 (.pointer (some ⟨id, off, none⟩)) = (σ.row id).bind fun r => r.1[off]? := by
 simp only [aload, ag97]; cases σ.row id <;> rfl
theorem st97 {σ : St} {id off : Nat} {x : Value} : astore Tryz.prog σ 97 (.pointer (some ⟨id, off, none⟩)) x = (σ.row id).bind fun r => stw σ id off 1 x r.1 r.2 := st_eq sz97
theorem sz98 : szOf Tryz.prog 98 = some 1 := by kernel_rfl
theorem ag98 : aggOf Tryz.prog 98 = some false := by kernel_rfl
theorem ld98 {σ : St} {id off : Nat} : aload Tryz.prog σ 98 (.pointer (some ⟨id, off, none⟩)) = (σ.row id).bind fun r => r.1[off]? := by
 simp only [aload, ag98]; cases σ.row id <;> rfl
theorem st98 {σ : St} {id off : Nat} {x : Value} : astore Tryz.prog σ 98 (.pointer (some ⟨id, off, none⟩)) x = (σ.row id).bind fun r => stw σ id off 1 x r.1 r.2 := st_eq sz98
theorem sz99 : szOf Tryz.prog 99 = some 1 := by kernel_rfl
theorem ag99 : aggOf Tryz.prog 99 = some false := by kernel_rfl
theorem ld99 {σ : St} {id off : Nat} : aload Tryz.prog σ 99 (.pointer (some ⟨id, off, none⟩)) = (σ.row id).bind fun r => r.1[off]? := by
 simp only [aload, ag99]; cases σ.row id <;> rfl
theorem st99 {σ : St} {id off : Nat} {x : Value} : astore Tryz.prog σ 99 (.pointer (some ⟨id, off, none⟩)) x = (σ.row id).bind fun r => stw σ id off 1 x r.1 r.2 := st_eq sz99
theorem sz100 : szOf Tryz.prog 100 = some 1 := by kernel_rfl
theorem ag100 : aggOf Tryz.prog 100 = some false := by kernel_rfl
theorem ld100 {σ : St} {id off : Nat} : aload Tryz.prog σ 100 (.pointer (some ⟨id, off, none⟩)) = (σ.row id).bind fun r => r.1[off]? := by
 simp only [aload, ag100]; cases σ.row id <;> rfl
theorem st100 {σ : St} {id off : Nat} {x : Value} : astore Tryz.prog σ 100 (.pointer (some ⟨id, off, none⟩)) x = (σ.row id).bind fun r => stw σ id off 1 x r.1 r.2 := st_eq sz100
theorem sz102 : szOf Tryz.prog 102 = some 1 := by kernel_rfl
theorem ag102 : aggOf Tryz.prog 102 = some false := by kernel_rfl
theorem ld102 {σ : St} {id off : Nat} : aload Tryz.prog σ 102 (.pointer (some ⟨id, off, none⟩)) = (σ.row id).bind fun r => r.1[off]? := by
 simp only [aload, ag102]; cases σ.row id <;> rfl
theorem st102 {σ : St} {id off : Nat} {x : Value} : astore Tryz.prog σ 102 (.pointer (some ⟨id, off, none⟩)) x = (σ.row id).bind fun r => stw σ id off 1 x r.1 r.2 := st_eq sz102
theorem sz103 : szOf Tryz.prog 103 = some 1 := by kernel_rfl
theorem ag103 : aggOf Tryz.prog 103 = some false := by kernel_rfl
theorem ld103 {σ : St} {id off : Nat} : aload Tryz.prog σ 103 (.pointer (some ⟨id, off, none⟩)) = (σ.row id).bind fun r => r.1[off]? := by
 simp only [aload, ag103]; cases σ.row id <;> rfl
theorem st103 {σ : St} {id off : Nat} {x : Value} : astore Tryz.prog σ 103 (.pointer (some ⟨id, off, none⟩)) x = (σ.row id).bind fun r => stw σ id off 1 x r.1 r.2 := st_eq sz103
theorem sz104 : szOf Tryz.prog 104 = some 1 := by kernel_rfl
theorem ag104 : aggOf Tryz.prog 104 = some false := by kernel_rfl
theorem ld104 {σ : St} {id off : Nat} : aload Tryz.prog σ 104 (.pointer (some ⟨id, off, none⟩)) = (σ.row id).bind fun r => r.1[off]? := by
 simp only [aload, ag104]; cases σ.row id <;> rfl
theorem st104 {σ : St} {id off : Nat} {x : Value} : astore Tryz.prog σ 104 (.pointer (some ⟨id, off, none⟩)) x = (σ.row id).bind fun r => stw σ id off 1 x r.1 r.2 := st_eq sz104
theorem sz105 : szOf Tryz.prog 105 = some 1 := by kernel_rfl
theorem ag105 : aggOf Tryz.prog 105 = some false := by kernel_rfl
theorem ld105 {σ : St} {id off : Nat} : aload Tryz.prog σ 105 (.pointer (some ⟨id, off, none⟩)) = (σ.row id).bind fun r => r.1[off]? := by
 simp only [aload, ag105]; cases σ.row id <;> rfl
theorem st105 {σ : St} {id off : Nat} {x : Value} : astore Tryz.prog σ 105 (.pointer (some ⟨id, off, none⟩)) x = (σ.row id).bind fun r => stw σ id off 1 x r.1 r.2 := st_eq sz105
theorem sz106 : szOf Tryz.prog 106 = some 1 := by kernel_rfl
theorem ag106 : aggOf Tryz.prog 106 = some false := by kernel_rfl
theorem ld106 {σ : St} {id off : Nat} : aload Tryz.prog σ 106 (.pointer (some ⟨id, off, none⟩)) = (σ.row id).bind fun r => r.1[off]? := by
 simp only [aload, ag106]; cases σ.row id <;> rfl
theorem st106 {σ : St} {id off : Nat} {x : Value} : astore Tryz.prog σ 106 (.pointer (some ⟨id, off, none⟩)) x = (σ.row id).bind fun r => stw σ id off 1 x r.1 r.2 := st_eq sz106
theorem sz107 : szOf Tryz.prog 107 = some 1 := by kernel_rfl
theorem ag107 : aggOf Tryz.prog 107 = some false := by kernel_rfl
theorem ld107 {σ : St} {id off : Nat} : aload Tryz.prog σ 107 (.pointer (some ⟨id, off, none⟩)) = (σ.row id).bind fun r => r.1[off]? := by
 simp only [aload, ag107]; cases σ.row id <;> rfl
theorem st107 {σ : St} {id off : Nat} {x : Value} : astore Tryz.prog σ 107 (.pointer (some ⟨id, off, none⟩)) x = (σ.row id).bind fun r => stw σ id off 1 x r.1 r.2 := st_eq sz107
theorem sz108 : szOf Tryz.prog 108 = some 1 := by kernel_rfl
theorem ag108 : aggOf Tryz.prog 108 = some false := by kernel_rfl
theorem ld108 {σ : St} {id off : Nat} : aload Tryz.prog σ 108 (.pointer (some ⟨id, off, none⟩)) = (σ.row id).bind fun r => r.1[off]? := by
 simp only [aload, ag108]; cases σ.row id <;> rfl
theorem st108 {σ : St} {id off : Nat} {x : Value} : astore Tryz.prog σ 108 (.pointer (some ⟨id, off, none⟩)) x = (σ.row id).bind fun r => stw σ id off 1 x r.1 r.2 := st_eq sz108
theorem sz109 : szOf Tryz.prog 109 = some 1 := by kernel_rfl
theorem ag109 : aggOf Tryz.prog 109 = some false := by kernel_rfl
theorem ld109 {σ : St} {id off : Nat} : aload Tryz.prog σ 109 (.pointer (some ⟨id, off, none⟩)) = (σ.row id).bind fun r => r.1[off]? := by
 simp only [aload, ag109]; cases σ.row id <;> rfl
theorem st109 {σ : St} {id off : Nat} {x : Value} : astore Tryz.prog σ 109 (.pointer (some ⟨id, off, none⟩)) x = (σ.row id).bind fun r => stw σ id off 1 x r.1 r.2 := st_eq sz109
theorem sz110 : szOf Tryz.prog 110 = some 3 := by kernel_rfl
theorem ag110 : aggOf Tryz.prog 110 = some true := by kernel_rfl
theorem ld110 {σ : St} {id off : Nat} : aload Tryz.prog σ 110 (.pointer (some ⟨id, off, none⟩)) = (σ.row id).bind fun r => (cut r.1 off 3).map fun l => .agg l.toArray := by
 simp only [aload, ag110, sz110]; cases σ.row id <;> rfl
theorem st110 {σ : St} {id off : Nat} {x : Value} : astore Tryz.prog σ 110 (.pointer (some ⟨id, off, none⟩)) x = (σ.row id).bind fun r => stw σ id off 3 x r.1 r.2 := st_eq sz110
theorem sz112 : szOf Tryz.prog 112 = some 1 := by kernel_rfl
theorem ag112 : aggOf Tryz.prog 112 = some false := by kernel_rfl
theorem ld112 {σ : St} {id off : Nat} : aload Tryz.prog σ 112 (.pointer (some ⟨id, off, none⟩)) = (σ.row id).bind fun r => r.1[off]? := by
 simp only [aload, ag112]; cases σ.row id <;> rfl
theorem st112 {σ : St} {id off : Nat} {x : Value} : astore Tryz.prog σ 112 (.pointer (some ⟨id, off, none⟩)) x = (σ.row id).bind fun r => stw σ id off 1 x r.1 r.2 := st_eq sz112
theorem sz113 : szOf Tryz.prog 113 = some 1 := by kernel_rfl
theorem ag113 : aggOf Tryz.prog 113 = some false := by kernel_rfl
theorem ld113 {σ : St} {id off : Nat} : aload Tryz.prog σ 113 (.pointer (some ⟨id, off, none⟩)) = (σ.row id).bind fun r => r.1[off]? := by
 simp only [aload, ag113]; cases σ.row id <;> rfl
theorem st113 {σ : St} {id off : Nat} {x : Value} : astore Tryz.prog σ 113 (.pointer (some ⟨id, off, none⟩)) x = (σ.row id).bind fun r => stw σ id off 1 x r.1 r.2 := st_eq sz113
theorem sz115 : szOf Tryz.prog 115 = some 1 := by kernel_rfl
theorem ag115 : aggOf Tryz.prog 115 = some false := by kernel_rfl
theorem ld115 {σ : St} {id off : Nat} : aload Tryz.prog σ 115 (.pointer (some ⟨id, off, none⟩)) = (σ.row id).bind fun r => r.1[off]? := by
 simp only [aload, ag115]; cases σ.row id <;> rfl
theorem st115 {σ : St} {id off : Nat} {x : Value} : astore Tryz.prog σ 115 (.pointer (some ⟨id, off, none⟩)) x = (σ.row id).bind fun r => stw σ id off 1 x r.1 r.2 := st_eq sz115
theorem sz116 : szOf Tryz.prog 116 = some 1 := by kernel_rfl
theorem ag116 : aggOf Tryz.prog 116 = some false := by kernel_rfl
theorem ld116 {σ : St} {id off : Nat} : aload Tryz.prog σ 116 (.pointer (some ⟨id, off, none⟩)) = (σ.row id).bind fun r => r.1[off]? := by
 simp only [aload, ag116]; cases σ.row id <;> rfl
theorem st116 {σ : St} {id off : Nat} {x : Value} : astore Tryz.prog σ 116 (.pointer (some ⟨id, off, none⟩)) x = (σ.row id).bind fun r => stw σ id off 1 x r.1 r.2 := st_eq sz116
theorem sz118 : szOf Tryz.prog 118 = some 1 := by kernel_rfl
theorem ag118 : aggOf Tryz.prog 118 = some false := by kernel_rfl
theorem ld118 {σ : St} {id off : Nat} : aload Tryz.prog σ 118 (.pointer (some ⟨id, off, none⟩)) = (σ.row id).bind fun r => r.1[off]? := by
 simp only [aload, ag118]; cases σ.row id <;> rfl
theorem st118 {σ : St} {id off : Nat} {x : Value} : astore Tryz.prog σ 118 (.pointer (some ⟨id, off, none⟩)) x = (σ.row id).bind fun r => stw σ id off 1 x r.1 r.2 := st_eq sz118
theorem sz119 : szOf Tryz.prog 119 = some 1 := by kernel_rfl
theorem ag119 : aggOf Tryz.prog 119 = some false := by kernel_rfl
theorem ld119 {σ : St} {id off : Nat} : aload Tryz.prog σ 119 (.pointer (some ⟨id, off, none⟩)) = (σ.row id).bind fun r => r.1[off]? := by
 simp only [aload, ag119]; cases σ.row id <;> rfl
theorem st119 {σ : St} {id off : Nat} {x : Value} : astore Tryz.prog σ 119 (.pointer (some ⟨id, off, none⟩)) x = (σ.row id).bind fun r => stw σ id off 1 x r.1 r.2 := st_eq sz119
theorem sz120 : szOf Tryz.prog 120 = some 1 := by kernel_rfl
theorem ag120 : aggOf Tryz.prog 120 = some false := by kernel_rfl
theorem ld120 {σ : St} {id off : Nat} : aload Tryz.prog σ 120 (.pointer (some ⟨id, off, none⟩)) = (σ.row id).bind fun r => r.1[off]? := by
 simp only [aload, ag120]; cases σ.row id <;> rfl
theorem st120 {σ : St} {id off : Nat} {x : Value} : astore Tryz.prog σ 120 (.pointer (some ⟨id, off, none⟩)) x = (σ.row id).bind fun r => stw σ id off 1 x r.1 r.2 := st_eq sz120
theorem sz121 : szOf Tryz.prog 121 = some 2 := by kernel_rfl
theorem ag121 : aggOf Tryz.prog 121 = some true := by kernel_rfl
theorem ld121 {σ : St} {id off : Nat} : aload Tryz.prog σ 121 (.pointer (some ⟨id, off, none⟩)) = (σ.row id).bind fun r => (cut r.1 off 2).map fun l => .agg l.toArray := by
 simp only [aload, ag121, sz121]; cases σ.row id <;> rfl
theorem st121 {σ : St} {id off : Nat} {x : Value} : astore Tryz.prog σ 121 (.pointer (some ⟨id, off, none⟩)) x = (σ.row id).bind fun r => stw σ id off 2 x r.1 r.2 := st_eq sz121
theorem sz122 : szOf Tryz.prog 122 = some 2 := by kernel_rfl
theorem ag122 : aggOf Tryz.prog 122 = some true := by kernel_rfl
theorem ld122 {σ : St} {id off : Nat} : aload Tryz.prog σ 122 (.pointer (some ⟨id, off, none⟩)) = (σ.row id).bind fun r => (cut r.1 off 2).map fun l => .agg l.toArray := by
 simp only [aload, ag122, sz122]; cases σ.row id <;> rfl
theorem st122 {σ : St} {id off : Nat} {x : Value} : astore Tryz.prog σ 122 (.pointer (some ⟨id, off, none⟩)) x = (σ.row id).bind fun r => stw σ id off 2 x r.1 r.2 := st_eq sz122
theorem sz123 : szOf Tryz.prog 123 = some 1 := by kernel_rfl
theorem ag123 : aggOf Tryz.prog 123 = some false := by kernel_rfl
theorem ld123 {σ : St} {id off : Nat} : aload Tryz.prog σ 123 (.pointer (some ⟨id, off, none⟩)) = (σ.row id).bind fun r => r.1[off]? := by
 simp only [aload, ag123]; cases σ.row id <;> rfl
theorem st123 {σ : St} {id off : Nat} {x : Value} : astore Tryz.prog σ 123 (.pointer (some ⟨id, off, none⟩)) x = (σ.row id).bind fun r => stw σ id off 1 x r.1 r.2 := st_eq sz123
theorem sz124 : szOf Tryz.prog 124 = some 1 := by kernel_rfl
theorem ag124 : aggOf Tryz.prog 124 = some false := by kernel_rfl
theorem ld124 {σ : St} {id off : Nat} : aload Tryz.prog σ 124 (.pointer (some ⟨id, off, none⟩)) = (σ.row id).bind fun r => r.1[off]? := by
 simp only [aload, ag124]; cases σ.row id <;> rfl
theorem st124 {σ : St} {id off : Nat} {x : Value} : astore Tryz.prog σ 124 (.pointer (some ⟨id, off, none⟩)) x = (σ.row id).bind fun r => stw σ id off 1 x r.1 r.2 := st_eq sz124
theorem sz125 : szOf Tryz.prog 125 = some 1 := by kernel_rfl
theorem ag125 : aggOf Tryz.prog 125 = some false := by kernel_rfl
theorem ld125 {σ : St} {id off : Nat} : aload Tryz.prog σ 125 (.pointer (some ⟨id, off, none⟩)) = (σ.row id).bind fun r => r.1[off]? := by
 simp only [aload, ag125]; cases σ.row id <;> rfl
theorem st125 {σ : St} {id off : Nat} {x : Value} : astore Tryz.prog σ 125 (.pointer (some ⟨id, off, none⟩)) x = (σ.row id).bind fun r => stw σ id off 1 x r.1 r.2 := st_eq sz125
theorem sz126 : szOf Tryz.prog 126 = some 1 := by kernel_rfl
theorem ag126 : aggOf Tryz.prog 126 = some false := by kernel_rfl
theorem ld126 {σ : St} {id off : Nat} : aload Tryz.prog σ 126 (.pointer (some ⟨id, off, none⟩)) = (σ.row id).bind fun r => r.1[off]? := by
 simp only [aload, ag126]; cases σ.row id <;> rfl
theorem st126 {σ : St} {id off : Nat} {x : Value} : astore Tryz.prog σ 126 (.pointer (some ⟨id, off, none⟩)) x = (σ.row id).bind fun r => stw σ id off 1 x r.1 r.2 := st_eq sz126
theorem sz127 : szOf Tryz.prog 127 = some 1 := by kernel_rfl
theorem ag127 : aggOf Tryz.prog 127 = some false := by kernel_rfl
theorem ld127 {σ : St} {id off : Nat} : aload Tryz.prog σ 127 (.pointer (some ⟨id, off, none⟩)) = (σ.row id).bind fun r => r.1[off]? := by
 simp only [aload, ag127]; cases σ.row id <;> rfl
theorem st127 {σ : St} {id off : Nat} {x : Value} : astore Tryz.prog σ 127 (.pointer (some ⟨id, off, none⟩)) x = (σ.row id).bind fun r => stw σ id off 1 x r.1 r.2 := st_eq sz127
theorem sz128 : szOf Tryz.prog 128 = some 1 := by kernel_rfl
theorem ag128 : aggOf Tryz.prog 128 = some false := by kernel_rfl
theorem ld128 {σ : St} {id off : Nat} : aload Tryz.prog σ 128 (.pointer (some ⟨id, off, none⟩)) = (σ.row id).bind fun r => r.1[off]? := by
 simp only [aload, ag128]; cases σ.row id <;> rfl
theorem st128 {σ : St} {id off : Nat} {x : Value} : astore Tryz.prog σ 128 (.pointer (some ⟨id, off, none⟩)) x = (σ.row id).bind fun r => stw σ id off 1 x r.1 r.2 := st_eq sz128
theorem sz129 : szOf Tryz.prog 129 = some 24 := by kernel_rfl
theorem ag129 : aggOf Tryz.prog 129 = some true := by kernel_rfl
theorem ld129 {σ : St} {id off : Nat} : aload Tryz.prog σ 129 (.pointer (some ⟨id, off, none⟩)) = (σ.row id).bind fun r => (cut r.1 off 24).map fun l => .agg l.toArray := by
 simp only [aload, ag129, sz129]; cases σ.row id <;> rfl
theorem st129 {σ : St} {id off : Nat} {x : Value} : astore Tryz.prog σ 129 (.pointer (some ⟨id, off, none⟩)) x = (σ.row id).bind fun r => stw σ id off 24 x r.1 r.2 := st_eq sz129
theorem sz130 : szOf Tryz.prog 130 = some 1 := by kernel_rfl
theorem ag130 : aggOf Tryz.prog 130 = some false := by kernel_rfl
theorem ld130 {σ : St} {id off : Nat} : aload Tryz.prog σ 130 (.pointer (some ⟨id, off, none⟩)) = (σ.row id).bind fun r => r.1[off]? := by
 simp only [aload, ag130]; cases σ.row id <;> rfl
theorem st130 {σ : St} {id off : Nat} {x : Value} : astore Tryz.prog σ 130 (.pointer (some ⟨id, off, none⟩)) x = (σ.row id).bind fun r => stw σ id off 1 x r.1 r.2 := st_eq sz130
theorem sz131 : szOf Tryz.prog 131 = some 1 := by kernel_rfl
theorem ag131 : aggOf Tryz.prog 131 = some false := by kernel_rfl
theorem ld131 {σ : St} {id off : Nat} : aload Tryz.prog σ 131 (.pointer (some ⟨id, off, none⟩)) = (σ.row id).bind fun r => r.1[off]? := by
 simp only [aload, ag131]; cases σ.row id <;> rfl
theorem st131 {σ : St} {id off : Nat} {x : Value} : astore Tryz.prog σ 131 (.pointer (some ⟨id, off, none⟩)) x = (σ.row id).bind fun r => stw σ id off 1 x r.1 r.2 := st_eq sz131
theorem sz132 : szOf Tryz.prog 132 = some 1 := by kernel_rfl
theorem ag132 : aggOf Tryz.prog 132 = some false := by kernel_rfl
theorem ld132 {σ : St} {id off : Nat} : aload Tryz.prog σ 132 (.pointer (some ⟨id, off, none⟩)) = (σ.row id).bind fun r => r.1[off]? := by
 simp only [aload, ag132]; cases σ.row id <;> rfl
theorem st132 {σ : St} {id off : Nat} {x : Value} : astore Tryz.prog σ 132 (.pointer (some ⟨id, off, none⟩)) x = (σ.row id).bind fun r => stw σ id off 1 x r.1 r.2 := st_eq sz132
theorem sz134 : szOf Tryz.prog 134 = some 1 := by kernel_rfl
theorem ag134 : aggOf Tryz.prog 134 = some false := by kernel_rfl
theorem ld134 {σ : St} {id off : Nat} : aload Tryz.prog σ 134 (.pointer (some ⟨id, off, none⟩)) = (σ.row id).bind fun r => r.1[off]? := by
 simp only [aload, ag134]; cases σ.row id <;> rfl
theorem st134 {σ : St} {id off : Nat} {x : Value} : astore Tryz.prog σ 134 (.pointer (some ⟨id, off, none⟩)) x = (σ.row id).bind fun r => stw σ id off 1 x r.1 r.2 := st_eq sz134
theorem sz135 : szOf Tryz.prog 135 = some 1 := by kernel_rfl
theorem ag135 : aggOf Tryz.prog 135 = some false := by kernel_rfl
theorem ld135 {σ : St} {id off : Nat} : aload Tryz.prog σ 135 (.pointer (some ⟨id, off, none⟩)) = (σ.row id).bind fun r => r.1[off]? := by
 simp only [aload, ag135]; cases σ.row id <;> rfl
theorem st135 {σ : St} {id off : Nat} {x : Value} : astore Tryz.prog σ 135 (.pointer (some ⟨id, off, none⟩)) x = (σ.row id).bind fun r => stw σ id off 1 x r.1 r.2 := st_eq sz135
theorem sz136 : szOf Tryz.prog 136 = some 20 := by kernel_rfl
theorem ag136 : aggOf Tryz.prog 136 = some true := by kernel_rfl
theorem ld136 {σ : St} {id off : Nat} : aload Tryz.prog σ 136 (.pointer (some ⟨id, off, none⟩)) = (σ.row id).bind fun r => (cut r.1 off 20).map fun l => .agg l.toArray := by
 simp only [aload, ag136, sz136]; cases σ.row id <;> rfl
theorem st136 {σ : St} {id off : Nat} {x : Value} : astore Tryz.prog σ 136 (.pointer (some ⟨id, off, none⟩)) x = (σ.row id).bind fun r => stw σ id off 20 x r.1 r.2 := st_eq sz136
theorem sz137 : szOf Tryz.prog 137 = some 1 := by kernel_rfl
theorem ag137 : aggOf Tryz.prog 137 = some false := by kernel_rfl
theorem ld137 {σ : St} {id off : Nat} : aload Tryz.prog σ 137 (.pointer (some ⟨id, off, none⟩)) = (σ.row id).bind fun r => r.1[off]? := by
 simp only [aload, ag137]; cases σ.row id <;> rfl
theorem st137 {σ : St} {id off : Nat} {x : Value} : astore Tryz.prog σ 137 (.pointer (some ⟨id, off, none⟩)) x = (σ.row id).bind fun r => stw σ id off 1 x r.1 r.2 := st_eq sz137
theorem sz138 : szOf Tryz.prog 138 = some 65 := by kernel_rfl
theorem ag138 : aggOf Tryz.prog 138 = some true := by kernel_rfl
theorem ld138 {σ : St} {id off : Nat} : aload Tryz.prog σ 138 (.pointer (some ⟨id, off, none⟩)) = (σ.row id).bind fun r => (cut r.1 off 65).map fun l => .agg l.toArray := by
 simp only [aload, ag138, sz138]; cases σ.row id <;> rfl
theorem st138 {σ : St} {id off : Nat} {x : Value} : astore Tryz.prog σ 138 (.pointer (some ⟨id, off, none⟩)) x = (σ.row id).bind fun r => stw σ id off 65 x r.1 r.2 := st_eq sz138
theorem sz139 : szOf Tryz.prog 139 = some 1 := by kernel_rfl
theorem ag139 : aggOf Tryz.prog 139 = some false := by kernel_rfl
theorem ld139 {σ : St} {id off : Nat} : aload Tryz.prog σ 139 (.pointer (some ⟨id, off, none⟩)) = (σ.row id).bind fun r => r.1[off]? := by
 simp only [aload, ag139]; cases σ.row id <;> rfl
theorem st139 {σ : St} {id off : Nat} {x : Value} : astore Tryz.prog σ 139 (.pointer (some ⟨id, off, none⟩)) x = (σ.row id).bind fun r => stw σ id off 1 x r.1 r.2 := st_eq sz139
theorem sz140 : szOf Tryz.prog 140 = some 1 := by kernel_rfl
theorem ag140 : aggOf Tryz.prog 140 = some false := by kernel_rfl
theorem ld140 {σ : St} {id off : Nat} : aload Tryz.prog σ 140 (.pointer (some ⟨id, off, none⟩)) = (σ.row id).bind fun r => r.1[off]? := by
 simp only [aload, ag140]; cases σ.row id <;> rfl
theorem st140 {σ : St} {id off : Nat} {x : Value} : astore Tryz.prog σ 140 (.pointer (some ⟨id, off, none⟩)) x = (σ.row id).bind fun r => stw σ id off 1 x r.1 r.2 := st_eq sz140
theorem sz141 : szOf Tryz.prog 141 = some 1 := by kernel_rfl
theorem ag141 : aggOf Tryz.prog 141 = some false := by kernel_rfl
theorem ld141 {σ : St} {id off : Nat} : aload Tryz.prog σ 141 (.pointer (some ⟨id, off, none⟩)) = (σ.row id).bind fun r => r.1[off]? := by
 simp only [aload, ag141]; cases σ.row id <;> rfl
theorem st141 {σ : St} {id off : Nat} {x : Value} : astore Tryz.prog σ 141 (.pointer (some ⟨id, off, none⟩)) x = (σ.row id).bind fun r => stw σ id off 1 x r.1 r.2 := st_eq sz141
theorem sz142 : szOf Tryz.prog 142 = some 1 := by kernel_rfl
theorem ag142 : aggOf Tryz.prog 142 = some false := by kernel_rfl
theorem ld142 {σ : St} {id off : Nat} : aload Tryz.prog σ 142 (.pointer (some ⟨id, off, none⟩)) = (σ.row id).bind fun r => r.1[off]? := by
 simp only [aload, ag142]; cases σ.row id <;> rfl
theorem st142 {σ : St} {id off : Nat} {x : Value} : astore Tryz.prog σ 142 (.pointer (some ⟨id, off, none⟩)) x = (σ.row id).bind fun r => stw σ id off 1 x r.1 r.2 := st_eq sz142
theorem sz143 : szOf Tryz.prog 143 = some 32 := by kernel_rfl
theorem ag143 : aggOf Tryz.prog 143 = some true := by kernel_rfl
theorem ld143 {σ : St} {id off : Nat} : aload Tryz.prog σ 143 (.pointer (some ⟨id, off, none⟩)) = (σ.row id).bind fun r => (cut r.1 off 32).map fun l => .agg l.toArray := by
 simp only [aload, ag143, sz143]; cases σ.row id <;> rfl
theorem st143 {σ : St} {id off : Nat} {x : Value} : astore Tryz.prog σ 143 (.pointer (some ⟨id, off, none⟩)) x = (σ.row id).bind fun r => stw σ id off 32 x r.1 r.2 := st_eq sz143
theorem sz144 : szOf Tryz.prog 144 = some 64 := by kernel_rfl
theorem ag144 : aggOf Tryz.prog 144 = some true := by kernel_rfl
theorem ld144 {σ : St} {id off : Nat} : aload Tryz.prog σ 144 (.pointer (some ⟨id, off, none⟩)) = (σ.row id).bind fun r => (cut r.1 off 64).map fun l => .agg l.toArray := by
 simp only [aload, ag144, sz144]; cases σ.row id <;> rfl
theorem st144 {σ : St} {id off : Nat} {x : Value} : astore Tryz.prog σ 144 (.pointer (some ⟨id, off, none⟩)) x = (σ.row id).bind fun r => stw σ id off 64 x r.1 r.2 := st_eq sz144
theorem sz145 : szOf Tryz.prog 145 = some 1 := by kernel_rfl
theorem ag145 : aggOf Tryz.prog 145 = some false := by kernel_rfl
theorem ld145 {σ : St} {id off : Nat} : aload Tryz.prog σ 145 (.pointer (some ⟨id, off, none⟩)) = (σ.row id).bind fun r => r.1[off]? := by
 simp only [aload, ag145]; cases σ.row id <;> rfl
theorem st145 {σ : St} {id off : Nat} {x : Value} : astore Tryz.prog σ 145 (.pointer (some ⟨id, off, none⟩)) x = (σ.row id).bind fun r => stw σ id off 1 x r.1 r.2 := st_eq sz145
theorem sz146 : szOf Tryz.prog 146 = some 4 := by kernel_rfl
theorem ag146 : aggOf Tryz.prog 146 = some true := by kernel_rfl
theorem ld146 {σ : St} {id off : Nat} : aload Tryz.prog σ 146 (.pointer (some ⟨id, off, none⟩)) = (σ.row id).bind fun r => (cut r.1 off 4).map fun l => .agg l.toArray := by
 simp only [aload, ag146, sz146]; cases σ.row id <;> rfl
theorem st146 {σ : St} {id off : Nat} {x : Value} : astore Tryz.prog σ 146 (.pointer (some ⟨id, off, none⟩)) x = (σ.row id).bind fun r => stw σ id off 4 x r.1 r.2 := st_eq sz146
theorem sz147 : szOf Tryz.prog 147 = some 4 := by kernel_rfl
theorem ag147 : aggOf Tryz.prog 147 = some true := by kernel_rfl
theorem ld147 {σ : St} {id off : Nat} : aload Tryz.prog σ 147 (.pointer (some ⟨id, off, none⟩)) = (σ.row id).bind fun r => (cut r.1 off 4).map fun l => .agg l.toArray := by
 simp only [aload, ag147, sz147]; cases σ.row id <;> rfl
theorem st147 {σ : St} {id off : Nat} {x : Value} : astore Tryz.prog σ 147 (.pointer (some ⟨id, off, none⟩)) x = (σ.row id).bind fun r => stw σ id off 4 x r.1 r.2 := st_eq sz147
theorem sz148 : szOf Tryz.prog 148 = some 0 := by kernel_rfl
theorem ag148 : aggOf Tryz.prog 148 = some true := by kernel_rfl
theorem ld148 {σ : St} {id off : Nat} : aload Tryz.prog σ 148 (.pointer (some ⟨id, off, none⟩)) = (σ.row id).bind fun r => (cut r.1 off 0).map fun l => .agg l.toArray := by
 simp only [aload, ag148, sz148]; cases σ.row id <;> rfl
theorem st148 {σ : St} {id off : Nat} {x : Value} : astore Tryz.prog σ 148 (.pointer (some ⟨id, off, none⟩)) x = (σ.row id).bind fun r => stw σ id off 0 x r.1 r.2 := st_eq sz148
theorem sz149 : szOf Tryz.prog 149 = some 0 := by kernel_rfl
theorem ag149 : aggOf Tryz.prog 149 = some true := by kernel_rfl
theorem ld149 {σ : St} {id off : Nat} : aload Tryz.prog σ 149 (.pointer (some ⟨id, off, none⟩)) = (σ.row id).bind fun r => (cut r.1 off 0).map fun l => .agg l.toArray := by
 simp only [aload, ag149, sz149]; cases σ.row id <;> rfl
theorem st149 {σ : St} {id off : Nat} {x : Value} : astore Tryz.prog σ 149 (.pointer (some ⟨id, off, none⟩)) x = (σ.row id).bind fun r => stw σ id off 0 x r.1 r.2 := st_eq sz149
theorem sz150 : szOf Tryz.prog 150 = some 0 := by kernel_rfl
theorem ag150 : aggOf Tryz.prog 150 = some true := by kernel_rfl
theorem ld150 {σ : St} {id off : Nat} : aload Tryz.prog σ 150 (.pointer (some ⟨id, off, none⟩)) = (σ.row id).bind fun r => (cut r.1 off 0).map fun l => .agg l.toArray := by
 simp only [aload, ag150, sz150]; cases σ.row id <;> rfl
theorem st150 {σ : St} {id off : Nat} {x : Value} : astore Tryz.prog σ 150 (.pointer (some ⟨id, off, none⟩)) x = (σ.row id).bind fun r => stw σ id off 0 x r.1 r.2 := st_eq sz150
theorem sz151 : szOf Tryz.prog 151 = some 1 := by kernel_rfl
theorem ag151 : aggOf Tryz.prog 151 = some false := by kernel_rfl
theorem ld151 {σ : St} {id off : Nat} : aload Tryz.prog σ 151 (.pointer (some ⟨id, off, none⟩)) = (σ.row id).bind fun r => r.1[off]? := by
 simp only [aload, ag151]; cases σ.row id <;> rfl
theorem st151 {σ : St} {id off : Nat} {x : Value} : astore Tryz.prog σ 151 (.pointer (some ⟨id, off, none⟩)) x = (σ.row id).bind fun r => stw σ id off 1 x r.1 r.2 := st_eq sz151
theorem sz152 : szOf Tryz.prog 152 = some 1 := by kernel_rfl
theorem ag152 : aggOf Tryz.prog 152 = some false := by kernel_rfl
theorem ld152 {σ : St} {id off : Nat} : aload Tryz.prog σ 152 (.pointer (some ⟨id, off, none⟩)) = (σ.row id).bind fun r => r.1[off]? := by
 simp only [aload, ag152]; cases σ.row id <;> rfl
theorem st152 {σ : St} {id off : Nat} {x : Value} : astore Tryz.prog σ 152 (.pointer (some ⟨id, off, none⟩)) x = (σ.row id).bind fun r => stw σ id off 1 x r.1 r.2 := st_eq sz152
theorem sz153 : szOf Tryz.prog 153 = some 1 := by kernel_rfl
theorem ag153 : aggOf Tryz.prog 153 = some false := by kernel_rfl
theorem ld153 {σ : St} {id off : Nat} : aload Tryz.prog σ 153 (.pointer (some ⟨id, off, none⟩)) = (σ.row id).bind fun r => r.1[off]? := by
 simp only [aload, ag153]; cases σ.row id <;> rfl
theorem st153 {σ : St} {id off : Nat} {x : Value} : astore Tryz.prog σ 153 (.pointer (some ⟨id, off, none⟩)) x = (σ.row id).bind fun r => stw σ id off 1 x r.1 r.2 := st_eq sz153
theorem sz154 : szOf Tryz.prog 154 = some 1 := by kernel_rfl
theorem ag154 : aggOf Tryz.prog 154 = some false := by kernel_rfl
theorem ld154 {σ : St} {id off : Nat} : aload Tryz.prog σ 154 (.pointer (some ⟨id, off, none⟩)) = (σ.row id).bind fun r => r.1[off]? := by
 simp only [aload, ag154]; cases σ.row id <;> rfl
theorem st154 {σ : St} {id off : Nat} {x : Value} : astore Tryz.prog σ 154 (.pointer (some ⟨id, off, none⟩)) x = (σ.row id).bind fun r => stw σ id off 1 x r.1 r.2 := st_eq sz154
theorem sz155 : szOf Tryz.prog 155 = some 1 := by kernel_rfl
theorem ag155 : aggOf Tryz.prog 155 = some false := by kernel_rfl
theorem ld155 {σ : St} {id off : Nat} : aload Tryz.prog σ 155 (.pointer (some ⟨id, off, none⟩)) = (σ.row id).bind fun r => r.1[off]? := by
 simp only [aload, ag155]; cases σ.row id <;> rfl
theorem st155 {σ : St} {id off : Nat} {x : Value} : astore Tryz.prog σ 155 (.pointer (some ⟨id, off, none⟩)) x = (σ.row id).bind fun r => stw σ id off 1 x r.1 r.2 := st_eq sz155
theorem sz156 : szOf Tryz.prog 156 = some 1 := by kernel_rfl
theorem ag156 : aggOf Tryz.prog 156 = some false := by kernel_rfl
theorem ld156 {σ : St} {id off : Nat} : aload Tryz.prog σ 156 (.pointer (some ⟨id, off, none⟩)) = (σ.row id).bind fun r => r.1[off]? := by
 simp only [aload, ag156]; cases σ.row id <;> rfl
theorem st156 {σ : St} {id off : Nat} {x : Value} : astore Tryz.prog σ 156 (.pointer (some ⟨id, off, none⟩)) x = (σ.row id).bind fun r => stw σ id off 1 x r.1 r.2 := st_eq sz156
theorem sz157 : szOf Tryz.prog 157 = some 1 := by kernel_rfl
theorem ag157 : aggOf Tryz.prog 157 = some false := by kernel_rfl
theorem ld157 {σ : St} {id off : Nat} : aload Tryz.prog σ 157 (.pointer (some ⟨id, off, none⟩)) = (σ.row id).bind fun r => r.1[off]? := by
 simp only [aload, ag157]; cases σ.row id <;> rfl
theorem st157 {σ : St} {id off : Nat} {x : Value} : astore Tryz.prog σ 157 (.pointer (some ⟨id, off, none⟩)) x = (σ.row id).bind fun r => stw σ id off 1 x r.1 r.2 := st_eq sz157
theorem sz158 : szOf Tryz.prog 158 = some 11 := by kernel_rfl
theorem ag158 : aggOf Tryz.prog 158 = some true := by kernel_rfl
theorem ld158 {σ : St} {id off : Nat} : aload Tryz.prog σ 158 (.pointer (some ⟨id, off, none⟩)) = (σ.row id).bind fun r => (cut r.1 off 11).map fun l => .agg l.toArray := by
 simp only [aload, ag158, sz158]; cases σ.row id <;> rfl
theorem st158 {σ : St} {id off : Nat} {x : Value} : astore Tryz.prog σ 158 (.pointer (some ⟨id, off, none⟩)) x = (σ.row id).bind fun r => stw σ id off 11 x r.1 r.2 := st_eq sz158
theorem sz159 : szOf Tryz.prog 159 = some 11 := by kernel_rfl
theorem ag159 : aggOf Tryz.prog 159 = some true := by kernel_rfl
theorem ld159 {σ : St} {id off : Nat} : aload Tryz.prog σ 159 (.pointer (some ⟨id, off, none⟩)) = (σ.row id).bind fun r => (cut r.1 off 11).map fun l => .agg l.toArray := by
 simp only [aload, ag159, sz159]; cases σ.row id <;> rfl
theorem st159 {σ : St} {id off : Nat} {x : Value} : astore Tryz.prog σ 159 (.pointer (some ⟨id, off, none⟩)) x = (σ.row id).bind fun r => stw σ id off 11 x r.1 r.2 := st_eq sz159
theorem al2 {id : Nat} : vAlloc Tryz.prog 2 id = some (.pointer (some ⟨id, 0, none⟩), .cells [.int .i64 0] boxMeta) := by kernel_rfl
theorem al3 {id : Nat} : vAlloc Tryz.prog 3 id = some (.pointer (some ⟨id, 0, none⟩), .cells [.int .i64 0] boxMeta) := by kernel_rfl
theorem if3 : infoOf Tryz.prog 3 = some (1, 8, .int .i64 0) := by kernel_rfl
theorem al4 {id : Nat} : vAlloc Tryz.prog 4 id = some (.pointer (some ⟨id, 0, none⟩), .cells [.bool false] boxMeta) := by kernel_rfl
theorem if4 : infoOf Tryz.prog 4 = some (1, 1, .bool false) := by kernel_rfl
theorem al5 {id : Nat} : vAlloc Tryz.prog 5 id = some (.pointer (some ⟨id, 0, none⟩), .cells [.int .u8 0] boxMeta) := by kernel_rfl
theorem al6 {id : Nat} : vAlloc Tryz.prog 6 id = some (.pointer (some ⟨id, 0, none⟩), .cells [.int .u8 0] boxMeta) := by kernel_rfl
theorem fa7_0 {id off : Nat} : afieldAddr Tryz.prog 7 (.pointer (some ⟨id, off, none⟩)) 0 = some (.pointer (some ⟨id, off, none⟩)) := by rw [fa (n := 1) Tryz.underlying7 rfl sz2 (by decide)]; rfl
theorem fa7_1 {id off : Nat} : afieldAddr Tryz.prog 7 (.pointer (some ⟨id, off, none⟩)) 1 = some (.pointer (some ⟨id, off + 1, none⟩)) := by rw [fa (n := 1) Tryz.underlying7 rfl sz3 (by decide)]; rfl
theorem fa7_2 {id off : Nat} : afieldAddr Tryz.prog 7 (.pointer (some ⟨id, off, none⟩)) 2 = some (.pointer (some ⟨id, off + 2, none⟩)) := by rw [fa (n := 1) Tryz.underlying7 rfl sz4 (by decide)]; rfl
theorem fa7_3 {id off : Nat} : afieldAddr Tryz.prog 7 (.pointer (some ⟨id, off, none⟩)) 3 = some (.pointer (some ⟨id, off + 3, none⟩)) := by rw [fa (n := 1) Tryz.underlying7 rfl sz6 (by decide)]; rfl
theorem al7 {id : Nat} : vAlloc Tryz.prog 7 id = some (.pointer (some ⟨id, 0, none⟩), .cells [.int .i64 0, .int .i64 0, .bool false, .int .u8 0] boxMeta) := by kernel_rfl
theorem fa8_0 {id off : Nat} : afieldAddr Tryz.prog 8 (.pointer (some ⟨id, off, none⟩)) 0 = some (.pointer (some ⟨id, off, none⟩)) := by rw [fa (n := 1) Tryz.underlying8 rfl sz2 (by decide)]; rfl
theorem fa8_1 {id off : Nat} : afieldAddr Tryz.prog 8 (.pointer (some ⟨id, off, none⟩)) 1 = some (.pointer (some ⟨id, off + 1, none⟩)) := by rw [fa (n := 1) Tryz.underlying8 rfl sz3 (by decide)]; rfl
theorem fa8_2 {id off : Nat} : afieldAddr Tryz.prog 8 (.pointer (some ⟨id, off, none⟩)) 2 = some (.pointer (some ⟨id, off + 2, none⟩)) := by rw [fa (n := 1) Tryz.underlying8 rfl sz4 (by decide)]; rfl
theorem fa8_3 {id off : Nat} : afieldAddr Tryz.prog 8 (.pointer (some ⟨id, off, none⟩)) 3 = some (.pointer (some ⟨id, off + 3, none⟩)) := by rw [fa (n := 1) Tryz.underlying8 rfl sz6 (by decide)]; rfl
theorem al8 {id : Nat} : vAlloc Tryz.prog 8 id = some (.pointer (some ⟨id, 0, none⟩), .cells [.int .i64 0, .int .i64 0, .bool false, .int .u8 0] boxMeta) := by kernel_rfl
theorem al9 {id : Nat} : vAlloc Tryz.prog 9 id = some (.pointer (some ⟨id, 0, none⟩), .cells [.string ⟨#[]⟩] boxMeta) := by kernel_rfl
theorem al10 {id : Nat} : vAlloc Tryz.prog 10 id = some (.pointer (some ⟨id, 0, none⟩), .cells [.string ⟨#[]⟩] boxMeta) := by kernel_rfl
theorem al11 {id : Nat} : vAlloc Tryz.prog 11 id = some (.pointer (some ⟨id, 0, none⟩), .cells [.string ⟨#[]⟩] boxMeta) := by kernel_rfl
theorem al12 {id : Nat} : vAlloc Tryz.prog 12 id = some (.pointer (some ⟨id, 0, none⟩), .cells [.int .u64 0] boxMeta) := by kernel_rfl
theorem fa13_0 {id off : Nat} : afieldAddr Tryz.prog 13 (.pointer (some ⟨id, off, none⟩)) 0 = some (.pointer (some ⟨id, off, none⟩)) := by rw [fa (n := 1) Tryz.underlying13 rfl sz9 (by decide)]; rfl
theorem fa13_1 {id off : Nat} : afieldAddr Tryz.prog 13 (.pointer (some ⟨id, off, none⟩)) 1 = some (.pointer (some ⟨id, off + 1, none⟩)) := by rw [fa (n := 1) Tryz.underlying13 rfl sz12 (by decide)]; rfl
theorem al13 {id : Nat} : vAlloc Tryz.prog 13 id = some (.pointer (some ⟨id, 0, none⟩), .cells [.string ⟨#[]⟩, .int .u64 0] boxMeta) := by kernel_rfl
theorem fa14_0 {id off : Nat} : afieldAddr Tryz.prog 14 (.pointer (some ⟨id, off, none⟩)) 0 = some (.pointer (some ⟨id, off, none⟩)) := by rw [fa (n := 1) Tryz.underlying14 rfl sz9 (by decide)]; rfl
theorem fa14_1 {id off : Nat} : afieldAddr Tryz.prog 14 (.pointer (some ⟨id, off, none⟩)) 1 = some (.pointer (some ⟨id, off + 1, none⟩)) := by rw [fa (n := 1) Tryz.underlying14 rfl sz12 (by decide)]; rfl
theorem al14 {id : Nat} : vAlloc Tryz.prog 14 id = some (.pointer (some ⟨id, 0, none⟩), .cells [.string ⟨#[]⟩, .int .u64 0] boxMeta) := by kernel_rfl
theorem al15 {id : Nat} : vAlloc Tryz.prog 15 id = some (.pointer (some ⟨id, 0, none⟩), .cells [.pointer none] boxMeta) := by kernel_rfl
theorem al16 {id : Nat} : vAlloc Tryz.prog 16 id = some (.pointer (some ⟨id, 0, none⟩), .cells [.pointer none] boxMeta) := by kernel_rfl
theorem al17 {id : Nat} : vAlloc Tryz.prog 17 id = some (.pointer (some ⟨id, 0, none⟩), .cells [.pointer none] boxMeta) := by kernel_rfl
theorem fa18_0 {id off : Nat} : afieldAddr Tryz.prog 18 (.pointer (some ⟨id, off, none⟩)) 0 = some (.pointer (some ⟨id, off, none⟩)) := by rw [fa (n := 1) Tryz.underlying18 rfl sz17 (by decide)]; rfl
theorem al18 {id : Nat} : vAlloc Tryz.prog 18 id = some (.pointer (some ⟨id, 0, none⟩), .cells [.pointer none] boxMeta) := by kernel_rfl
theorem fa19_0 {id off : Nat} : afieldAddr Tryz.prog 19 (.pointer (some ⟨id, off, none⟩)) 0 = some (.pointer (some ⟨id, off, none⟩)) := by rw [fa (n := 1) Tryz.underlying19 rfl sz17 (by decide)]; rfl
theorem al19 {id : Nat} : vAlloc Tryz.prog 19 id = some (.pointer (some ⟨id, 0, none⟩), .cells [.pointer none] boxMeta) := by kernel_rfl
theorem al21 {id : Nat} : vAlloc Tryz.prog 21 id = some (.pointer (some ⟨id, 0, none⟩), .cells [.int .i32 0] boxMeta) := by kernel_rfl
theorem ia22 {id off len c : Nat} {k : IntKind} {n : Int} (h0 : 0 ≤ n) (h1 : n < (len : Int)) : aindexAddr Tryz.prog 22 (.slice (some ⟨id, off, none⟩) len c) (.int k n) = some (.pointer (some ⟨id, off + n.toNat * 1, none⟩)) := ia Tryz.underlying22 sz5 h0 h1
theorem ln22 {n c : Nat} {a : Option Addr} : alen Tryz.prog 22 (.slice a n c) = some (.int .i64 n) := by
 have hu := Tryz.underlying22
 simp [alen, hu, goInt]
theorem al22 {id : Nat} : vAlloc Tryz.prog 22 id = some (.pointer (some ⟨id, 0, none⟩), .cells [.slice none 0 0] boxMeta) := by kernel_rfl
theorem al23 {id : Nat} : vAlloc Tryz.prog 23 id = some (.pointer (some ⟨id, 0, none⟩), .cells [.nilFunc] boxMeta) := by kernel_rfl
theorem al24 {id : Nat} : vAlloc Tryz.prog 24 id = some (.pointer (some ⟨id, 0, none⟩), .cells [.pointer none] boxMeta) := by kernel_rfl
theorem fa25_0 {id off : Nat} : afieldAddr Tryz.prog 25 (.pointer (some ⟨id, off, none⟩)) 0 = some (.pointer (some ⟨id, off, none⟩)) := by rw [fa (n := 1) Tryz.underlying25 rfl sz22 (by decide)]; rfl
theorem fa25_1 {id off : Nat} : afieldAddr Tryz.prog 25 (.pointer (some ⟨id, off, none⟩)) 1 = some (.pointer (some ⟨id, off + 1, none⟩)) := by rw [fa (n := 1) Tryz.underlying25 rfl sz3 (by decide)]; rfl
theorem al25 {id : Nat} : vAlloc Tryz.prog 25 id = some (.pointer (some ⟨id, 0, none⟩), .cells [.slice none 0 0, .int .i64 0] boxMeta) := by kernel_rfl
theorem fa26_0 {id off : Nat} : afieldAddr Tryz.prog 26 (.pointer (some ⟨id, off, none⟩)) 0 = some (.pointer (some ⟨id, off, none⟩)) := by rw [fa (n := 1) Tryz.underlying26 rfl sz22 (by decide)]; rfl
theorem fa26_1 {id off : Nat} : afieldAddr Tryz.prog 26 (.pointer (some ⟨id, off, none⟩)) 1 = some (.pointer (some ⟨id, off + 1, none⟩)) := by rw [fa (n := 1) Tryz.underlying26 rfl sz3 (by decide)]; rfl
theorem al26 {id : Nat} : vAlloc Tryz.prog 26 id = some (.pointer (some ⟨id, 0, none⟩), .cells [.slice none 0 0, .int .i64 0] boxMeta) := by kernel_rfl
theorem fa27_0 {id off : Nat} : afieldAddr Tryz.prog 27 (.pointer (some ⟨id, off, none⟩)) 0 = some (.pointer (some ⟨id, off, none⟩)) := by rw [fa (n := 1) Tryz.underlying27 rfl sz9 (by decide)]; rfl
theorem fa27_1 {id off : Nat} : afieldAddr Tryz.prog 27 (.pointer (some ⟨id, off, none⟩)) 1 = some (.pointer (some ⟨id, off + 1, none⟩)) := by rw [fa (n := 1) Tryz.underlying27 rfl sz9 (by decide)]; rfl
theorem al27 {id : Nat} : vAlloc Tryz.prog 27 id = some (.pointer (some ⟨id, 0, none⟩), .cells [.string ⟨#[]⟩, .string ⟨#[]⟩] boxMeta) := by kernel_rfl
theorem fa28_0 {id off : Nat} : afieldAddr Tryz.prog 28 (.pointer (some ⟨id, off, none⟩)) 0 = some (.pointer (some ⟨id, off, none⟩)) := by rw [fa (n := 1) Tryz.underlying28 rfl sz9 (by decide)]; rfl
theorem fa28_1 {id off : Nat} : afieldAddr Tryz.prog 28 (.pointer (some ⟨id, off, none⟩)) 1 = some (.pointer (some ⟨id, off + 1, none⟩)) := by rw [fa (n := 1) Tryz.underlying28 rfl sz9 (by decide)]; rfl
theorem al28 {id : Nat} : vAlloc Tryz.prog 28 id = some (.pointer (some ⟨id, 0, none⟩), .cells [.string ⟨#[]⟩, .string ⟨#[]⟩] boxMeta) := by kernel_rfl
theorem if28 : infoOf Tryz.prog 28 = some (2, 32, .agg #[.string ⟨#[]⟩, .string ⟨#[]⟩]) := by kernel_rfl
theorem ln29 {n c : Nat} {a : Option Addr} : alen Tryz.prog 29 (.slice a n c) = some (.int .i64 n) := by
 have hu := Tryz.underlying29
 simp [alen, hu, goInt]
theorem al29 {id : Nat} : vAlloc Tryz.prog 29 id = some (.pointer (some ⟨id, 0, none⟩), .cells [.slice none 0 0] boxMeta) := by kernel_rfl
theorem fa30_0 {id off : Nat} : afieldAddr Tryz.prog 30 (.pointer (some ⟨id, off, none⟩)) 0 = some (.pointer (some ⟨id, off, none⟩)) := by rw [fa (n := 1) Tryz.underlying30 rfl sz3 (by decide)]; rfl
theorem fa30_1 {id off : Nat} : afieldAddr Tryz.prog 30 (.pointer (some ⟨id, off, none⟩)) 1 = some (.pointer (some ⟨id, off + 1, none⟩)) := by rw [fa (n := 1) Tryz.underlying30 rfl sz9 (by decide)]; rfl
theorem fa30_2 {id off : Nat} : afieldAddr Tryz.prog 30 (.pointer (some ⟨id, off, none⟩)) 2 = some (.pointer (some ⟨id, off + 2, none⟩)) := by rw [fa (n := 1) Tryz.underlying30 rfl sz9 (by decide)]; rfl
theorem fa30_3 {id off : Nat} : afieldAddr Tryz.prog 30 (.pointer (some ⟨id, off, none⟩)) 3 = some (.pointer (some ⟨id, off + 3, none⟩)) := by rw [fa (n := 2) Tryz.underlying30 rfl sz28 (by decide)]; rfl
theorem fa30_4 {id off : Nat} : afieldAddr Tryz.prog 30 (.pointer (some ⟨id, off, none⟩)) 4 = some (.pointer (some ⟨id, off + 5, none⟩)) := by rw [fa (n := 1) Tryz.underlying30 rfl sz9 (by decide)]; rfl
theorem fa30_5 {id off : Nat} : afieldAddr Tryz.prog 30 (.pointer (some ⟨id, off, none⟩)) 5 = some (.pointer (some ⟨id, off + 6, none⟩)) := by rw [fa (n := 1) Tryz.underlying30 rfl sz29 (by decide)]; rfl
theorem al30 {id : Nat} : vAlloc Tryz.prog 30 id = some (.pointer (some ⟨id, 0, none⟩), .cells [.int .i64 0, .string ⟨#[]⟩, .string ⟨#[]⟩, .string ⟨#[]⟩, .string ⟨#[]⟩, .string ⟨#[]⟩, .slice none 0 0] boxMeta) := by kernel_rfl
theorem fa31_0 {id off : Nat} : afieldAddr Tryz.prog 31 (.pointer (some ⟨id, off, none⟩)) 0 = some (.pointer (some ⟨id, off, none⟩)) := by rw [fa (n := 1) Tryz.underlying31 rfl sz3 (by decide)]; rfl
theorem fa31_1 {id off : Nat} : afieldAddr Tryz.prog 31 (.pointer (some ⟨id, off, none⟩)) 1 = some (.pointer (some ⟨id, off + 1, none⟩)) := by rw [fa (n := 1) Tryz.underlying31 rfl sz9 (by decide)]; rfl
theorem fa31_2 {id off : Nat} : afieldAddr Tryz.prog 31 (.pointer (some ⟨id, off, none⟩)) 2 = some (.pointer (some ⟨id, off + 2, none⟩)) := by rw [fa (n := 1) Tryz.underlying31 rfl sz9 (by decide)]; rfl
theorem fa31_3 {id off : Nat} : afieldAddr Tryz.prog 31 (.pointer (some ⟨id, off, none⟩)) 3 = some (.pointer (some ⟨id, off + 3, none⟩)) := by rw [fa (n := 2) Tryz.underlying31 rfl sz28 (by decide)]; rfl
theorem fa31_4 {id off : Nat} : afieldAddr Tryz.prog 31 (.pointer (some ⟨id, off, none⟩)) 4 = some (.pointer (some ⟨id, off + 5, none⟩)) := by rw [fa (n := 1) Tryz.underlying31 rfl sz9 (by decide)]; rfl
theorem fa31_5 {id off : Nat} : afieldAddr Tryz.prog 31 (.pointer (some ⟨id, off, none⟩)) 5 = some (.pointer (some ⟨id, off + 6, none⟩)) := by rw [fa (n := 1) Tryz.underlying31 rfl sz29 (by decide)]; rfl
theorem al31 {id : Nat} : vAlloc Tryz.prog 31 id = some (.pointer (some ⟨id, 0, none⟩), .cells [.int .i64 0, .string ⟨#[]⟩, .string ⟨#[]⟩, .string ⟨#[]⟩, .string ⟨#[]⟩, .string ⟨#[]⟩, .slice none 0 0] boxMeta) := by kernel_rfl
theorem ia32 {id off len c : Nat} {k : IntKind} {n : Int} (h0 : 0 ≤ n) (h1 : n < (len : Int)) : aindexAddr Tryz.prog 32 (.slice (some ⟨id, off, none⟩) len c) (.int k n) = some (.pointer (some ⟨id, off + n.toNat * 11, none⟩)) := ia Tryz.underlying32 sz34 h0 h1
theorem ln32 {n c : Nat} {a : Option Addr} : alen Tryz.prog 32 (.slice a n c) = some (.int .i64 n) := by
 have hu := Tryz.underlying32
 simp [alen, hu, goInt]
theorem al32 {id : Nat} : vAlloc Tryz.prog 32 id = some (.pointer (some ⟨id, 0, none⟩), .cells [.slice none 0 0] boxMeta) := by kernel_rfl
theorem fa33_0 {id off : Nat} : afieldAddr Tryz.prog 33 (.pointer (some ⟨id, off, none⟩)) 0 = some (.pointer (some ⟨id, off, none⟩)) := by rw [fa (n := 1) Tryz.underlying33 rfl sz3 (by decide)]; rfl
theorem fa33_1 {id off : Nat} : afieldAddr Tryz.prog 33 (.pointer (some ⟨id, off, none⟩)) 1 = some (.pointer (some ⟨id, off + 1, none⟩)) := by rw [fa (n := 2) Tryz.underlying33 rfl sz28 (by decide)]; rfl
theorem fa33_2 {id off : Nat} : afieldAddr Tryz.prog 33 (.pointer (some ⟨id, off, none⟩)) 2 = some (.pointer (some ⟨id, off + 3, none⟩)) := by rw [fa (n := 7) Tryz.underlying33 rfl sz31 (by decide)]; rfl
theorem fa33_3 {id off : Nat} : afieldAddr Tryz.prog 33 (.pointer (some ⟨id, off, none⟩)) 3 = some (.pointer (some ⟨id, off + 10, none⟩)) := by rw [fa (n := 1) Tryz.underlying33 rfl sz32 (by decide)]; rfl
theorem al33 {id : Nat} : vAlloc Tryz.prog 33 id = some (.pointer (some ⟨id, 0, none⟩), .cells [.int .i64 0, .string ⟨#[]⟩, .string ⟨#[]⟩, .int .i64 0, .string ⟨#[]⟩, .string ⟨#[]⟩, .string ⟨#[]⟩, .string ⟨#[]⟩, .string ⟨#[]⟩, .slice none 0 0, .slice none 0 0] boxMeta) := by kernel_rfl
theorem fa34_0 {id off : Nat} : afieldAddr Tryz.prog 34 (.pointer (some ⟨id, off, none⟩)) 0 = some (.pointer (some ⟨id, off, none⟩)) := by rw [fa (n := 1) Tryz.underlying34 rfl sz3 (by decide)]; rfl
theorem fa34_1 {id off : Nat} : afieldAddr Tryz.prog 34 (.pointer (some ⟨id, off, none⟩)) 1 = some (.pointer (some ⟨id, off + 1, none⟩)) := by rw [fa (n := 2) Tryz.underlying34 rfl sz28 (by decide)]; rfl
theorem fa34_2 {id off : Nat} : afieldAddr Tryz.prog 34 (.pointer (some ⟨id, off, none⟩)) 2 = some (.pointer (some ⟨id, off + 3, none⟩)) := by rw [fa (n := 7) Tryz.underlying34 rfl sz31 (by decide)]; rfl
theorem fa34_3 {id off : Nat} : afieldAddr Tryz.prog 34 (.pointer (some ⟨id, off, none⟩)) 3 = some (.pointer (some ⟨id, off + 10, none⟩)) := by rw [fa (n := 1) Tryz.underlying34 rfl sz32 (by decide)]; rfl
theorem al34 {id : Nat} : vAlloc Tryz.prog 34 id = some (.pointer (some ⟨id, 0, none⟩), .cells [.int .i64 0, .string ⟨#[]⟩, .string ⟨#[]⟩, .int .i64 0, .string ⟨#[]⟩, .string ⟨#[]⟩, .string ⟨#[]⟩, .string ⟨#[]⟩, .string ⟨#[]⟩, .slice none 0 0, .slice none 0 0] boxMeta) := by kernel_rfl
theorem al35 {id : Nat} : vAlloc Tryz.prog 35 id = some (.pointer (some ⟨id, 0, none⟩), .cells [.nilFunc] boxMeta) := by kernel_rfl
theorem al36 {id : Nat} : vAlloc Tryz.prog 36 id = some (.pointer (some ⟨id, 0, none⟩), .cells [.nilFunc] boxMeta) := by kernel_rfl
theorem ia37 {id off len c : Nat} {k : IntKind} {n : Int} (h0 : 0 ≤ n) (h1 : n < (len : Int)) : aindexAddr Tryz.prog 37 (.slice (some ⟨id, off, none⟩) len c) (.int k n) = some (.pointer (some ⟨id, off + n.toNat * 2, none⟩)) := ia Tryz.underlying37 sz28 h0 h1
theorem ln37 {n c : Nat} {a : Option Addr} : alen Tryz.prog 37 (.slice a n c) = some (.int .i64 n) := by
 have hu := Tryz.underlying37
 simp [alen, hu, goInt]
theorem al37 {id : Nat} : vAlloc Tryz.prog 37 id = some (.pointer (some ⟨id, 0, none⟩), .cells [.slice none 0 0] boxMeta) := by kernel_rfl
theorem al38 {id : Nat} : vAlloc Tryz.prog 38 id = some (.pointer (some ⟨id, 0, none⟩), .cells [.nilFunc] boxMeta) := by kernel_rfl
theorem ia39 {id off len c : Nat} {k : IntKind} {n : Int} (h0 : 0 ≤ n) (h1 : n < (len : Int)) : aindexAddr Tryz.prog 39 (.slice (some ⟨id, off, none⟩) len c) (.int k n) = some (.pointer (some ⟨id, off + n.toNat * 3, none⟩)) := ia Tryz.underlying39 sz54 h0 h1
theorem ln39 {n c : Nat} {a : Option Addr} : alen Tryz.prog 39 (.slice a n c) = some (.int .i64 n) := by
 have hu := Tryz.underlying39
 simp [alen, hu, goInt]
theorem al39 {id : Nat} : vAlloc Tryz.prog 39 id = some (.pointer (some ⟨id, 0, none⟩), .cells [.slice none 0 0] boxMeta) := by kernel_rfl
theorem fa40_0 {id off : Nat} : afieldAddr Tryz.prog 40 (.pointer (some ⟨id, off, none⟩)) 0 = some (.pointer (some ⟨id, off, none⟩)) := by rw [fa (n := 1) Tryz.underlying40 rfl sz39 (by decide)]; rfl
theorem fa40_1 {id off : Nat} : afieldAddr Tryz.prog 40 (.pointer (some ⟨id, off, none⟩)) 1 = some (.pointer (some ⟨id, off + 1, none⟩)) := by rw [fa (n := 1) Tryz.underlying40 rfl sz3 (by decide)]; rfl
theorem al40 {id : Nat} : vAlloc Tryz.prog 40 id = some (.pointer (some ⟨id, 0, none⟩), .cells [.slice none 0 0, .int .i64 0] boxMeta) := by kernel_rfl
theorem fa41_0 {id off : Nat} : afieldAddr Tryz.prog 41 (.pointer (some ⟨id, off, none⟩)) 0 = some (.pointer (some ⟨id, off, none⟩)) := by rw [fa (n := 1) Tryz.underlying41 rfl sz39 (by decide)]; rfl
theorem fa41_1 {id off : Nat} : afieldAddr Tryz.prog 41 (.pointer (some ⟨id, off, none⟩)) 1 = some (.pointer (some ⟨id, off + 1, none⟩)) := by rw [fa (n := 1) Tryz.underlying41 rfl sz3 (by decide)]; rfl
theorem al41 {id : Nat} : vAlloc Tryz.prog 41 id = some (.pointer (some ⟨id, 0, none⟩), .cells [.slice none 0 0, .int .i64 0] boxMeta) := by kernel_rfl
theorem if41 : infoOf Tryz.prog 41 = some (2, 32, .agg #[.slice none 0 0, .int .i64 0]) := by kernel_rfl
theorem al42 {id : Nat} : vAlloc Tryz.prog 42 id = some (.pointer (some ⟨id, 0, none⟩), .cells [.int .i64 0] boxMeta) := by kernel_rfl
theorem al44 {id : Nat} : vAlloc Tryz.prog 44 id = some (.pointer (some ⟨id, 0, none⟩), .cells [.nilFunc] boxMeta) := by kernel_rfl
theorem al45 {id : Nat} : vAlloc Tryz.prog 45 id = some (.pointer (some ⟨id, 0, none⟩), .cells [.nilFunc] boxMeta) := by kernel_rfl
theorem al46 {id : Nat} : vAlloc Tryz.prog 46 id = some (.pointer (some ⟨id, 0, none⟩), .cells [.nilFunc] boxMeta) := by kernel_rfl
theorem al48 {id : Nat} : vAlloc Tryz.prog 48 id = some (.pointer (some ⟨id, 0, none⟩), .cells [.nilFunc] boxMeta) := by kernel_rfl
theorem al49 {id : Nat} : vAlloc Tryz.prog 49 id = some (.pointer (some ⟨id, 0, none⟩), .cells [.nilFunc] boxMeta) := by kernel_rfl
theorem al50 {id : Nat} : vAlloc Tryz.prog 50 id = some (.pointer (some ⟨id, 0, none⟩), .cells [.nilFunc] boxMeta) := by kernel_rfl
theorem al51 {id : Nat} : vAlloc Tryz.prog 51 id = some (.pointer (some ⟨id, 0, none⟩), .cells [.nilFunc] boxMeta) := by kernel_rfl
theorem al52 {id : Nat} : vAlloc Tryz.prog 52 id = some (.pointer (some ⟨id, 0, none⟩), .cells [.nilFunc] boxMeta) := by kernel_rfl
theorem fa53_0 {id off : Nat} : afieldAddr Tryz.prog 53 (.pointer (some ⟨id, off, none⟩)) 0 = some (.pointer (some ⟨id, off, none⟩)) := by rw [fa (n := 1) Tryz.underlying53 rfl sz3 (by decide)]; rfl
theorem fa53_1 {id off : Nat} : afieldAddr Tryz.prog 53 (.pointer (some ⟨id, off, none⟩)) 1 = some (.pointer (some ⟨id, off + 1, none⟩)) := by rw [fa (n := 1) Tryz.underlying53 rfl sz3 (by decide)]; rfl
theorem fa53_2 {id off : Nat} : afieldAddr Tryz.prog 53 (.pointer (some ⟨id, off, none⟩)) 2 = some (.pointer (some ⟨id, off + 2, none⟩)) := by rw [fa (n := 1) Tryz.underlying53 rfl sz3 (by decide)]; rfl
theorem al53 {id : Nat} : vAlloc Tryz.prog 53 id = some (.pointer (some ⟨id, 0, none⟩), .cells [.int .i64 0, .int .i64 0, .int .i64 0] boxMeta) := by kernel_rfl
theorem fa54_0 {id off : Nat} : afieldAddr Tryz.prog 54 (.pointer (some ⟨id, off, none⟩)) 0 = some (.pointer (some ⟨id, off, none⟩)) := by rw [fa (n := 1) Tryz.underlying54 rfl sz3 (by decide)]; rfl
theorem fa54_1 {id off : Nat} : afieldAddr Tryz.prog 54 (.pointer (some ⟨id, off, none⟩)) 1 = some (.pointer (some ⟨id, off + 1, none⟩)) := by rw [fa (n := 1) Tryz.underlying54 rfl sz3 (by decide)]; rfl
theorem fa54_2 {id off : Nat} : afieldAddr Tryz.prog 54 (.pointer (some ⟨id, off, none⟩)) 2 = some (.pointer (some ⟨id, off + 2, none⟩)) := by rw [fa (n := 1) Tryz.underlying54 rfl sz3 (by decide)]; rfl
theorem al54 {id : Nat} : vAlloc Tryz.prog 54 id = some (.pointer (some ⟨id, 0, none⟩), .cells [.int .i64 0, .int .i64 0, .int .i64 0] boxMeta) := by kernel_rfl
theorem if54 : infoOf Tryz.prog 54 = some (3, 24, .agg #[.int .i64 0, .int .i64 0, .int .i64 0]) := by kernel_rfl
theorem al55 {id : Nat} : vAlloc Tryz.prog 55 id = some (.pointer (some ⟨id, 0, none⟩), .cells [.nilFunc] boxMeta) := by kernel_rfl
theorem al56 {id : Nat} : vAlloc Tryz.prog 56 id = some (.pointer (some ⟨id, 0, none⟩), .cells [.nilFunc] boxMeta) := by kernel_rfl
theorem al57 {id : Nat} : vAlloc Tryz.prog 57 id = some (.pointer (some ⟨id, 0, none⟩), .cells [.nilFunc] boxMeta) := by kernel_rfl
theorem al58 {id : Nat} : vAlloc Tryz.prog 58 id = some (.pointer (some ⟨id, 0, none⟩), .cells [.nilFunc] boxMeta) := by kernel_rfl
theorem al59 {id : Nat} : vAlloc Tryz.prog 59 id = some (.pointer (some ⟨id, 0, none⟩), .cells [.nilFunc] boxMeta) := by kernel_rfl
theorem al60 {id : Nat} : vAlloc Tryz.prog 60 id = some (.pointer (some ⟨id, 0, none⟩), .cells [.nilFunc] boxMeta) := by kernel_rfl
theorem al61 {id : Nat} : vAlloc Tryz.prog 61 id = some (.pointer (some ⟨id, 0, none⟩), .cells [.nilFunc] boxMeta) := by kernel_rfl
theorem al62 {id : Nat} : vAlloc Tryz.prog 62 id = some (.pointer (some ⟨id, 0, none⟩), .cells [.nilFunc] boxMeta) := by kernel_rfl
theorem ia63 {id off len c : Nat} {k : IntKind} {n : Int} (h0 : 0 ≤ n) (h1 : n < (len : Int)) : aindexAddr Tryz.prog 63 (.slice (some ⟨id, off, none⟩) len c) (.int k n) = some (.pointer (some ⟨id, off + n.toNat * 1, none⟩)) := ia Tryz.underlying63 sz4 h0 h1
theorem ln63 {n c : Nat} {a : Option Addr} : alen Tryz.prog 63 (.slice a n c) = some (.int .i64 n) := by
 have hu := Tryz.underlying63
 simp [alen, hu, goInt]
theorem al63 {id : Nat} : vAlloc Tryz.prog 63 id = some (.pointer (some ⟨id, 0, none⟩), .cells [.slice none 0 0] boxMeta) := by kernel_rfl
theorem al64 {id : Nat} : vAlloc Tryz.prog 64 id = some (.pointer (some ⟨id, 0, none⟩), .cells [.nilFunc] boxMeta) := by kernel_rfl
theorem al65 {id : Nat} : vAlloc Tryz.prog 65 id = some (.pointer (some ⟨id, 0, none⟩), .cells [.nilFunc] boxMeta) := by kernel_rfl
theorem al66 {id : Nat} : vAlloc Tryz.prog 66 id = some (.pointer (some ⟨id, 0, none⟩), .cells [.nilFunc] boxMeta) := by kernel_rfl
theorem al67 {id : Nat} : vAlloc Tryz.prog 67 id = some (.pointer (some ⟨id, 0, none⟩), .cells [.nilFunc] boxMeta) := by kernel_rfl
theorem al68 {id : Nat} : vAlloc Tryz.prog 68 id = some (.pointer (some ⟨id, 0, none⟩), .cells [.nilFunc] boxMeta) := by kernel_rfl
theorem al69 {id : Nat} : vAlloc Tryz.prog 69 id = some (.pointer (some ⟨id, 0, none⟩), .cells [.nilFunc] boxMeta) := by kernel_rfl
theorem al70 {id : Nat} : vAlloc Tryz.prog 70 id = some (.pointer (some ⟨id, 0, none⟩), .cells [.nilFunc] boxMeta) := by kernel_rfl
theorem ia71 {id off len c : Nat} {k : IntKind} {n : Int} (h0 : 0 ≤ n) (h1 : n < (len : Int)) : aindexAddr Tryz.prog 71 (.slice (some ⟨id, off, none⟩) len c) (.int k n) = some (.pointer (some ⟨id, off + n.toNat * 1, none⟩)) := ia Tryz.underlying71 sz3 h0 h1
theorem ln71 {n c : Nat} {a : Option Addr} : alen Tryz.prog 71 (.slice a n c) = some (.int .i64 n) := by
 have hu := Tryz.underlying71
 simp [alen, hu, goInt]
theorem al71 {id : Nat} : vAlloc Tryz.prog 71 id = some (.pointer (some ⟨id, 0, none⟩), .cells [.slice none 0 0] boxMeta) := by kernel_rfl
theorem al72 {id : Nat} : vAlloc Tryz.prog 72 id = some (.pointer (some ⟨id, 0, none⟩), .cells [.nilFunc] boxMeta) := by kernel_rfl
theorem al73 {id : Nat} : vAlloc Tryz.prog 73 id = some (.pointer (some ⟨id, 0, none⟩), .cells [.nilFunc] boxMeta) := by kernel_rfl
theorem al74 {id : Nat} : vAlloc Tryz.prog 74 id = some (.pointer (some ⟨id, 0, none⟩), .cells [.nilFunc] boxMeta) := by kernel_rfl
theorem al75 {id : Nat} : vAlloc Tryz.prog 75 id = some (.pointer (some ⟨id, 0, none⟩), .cells [.nilFunc] boxMeta) := by kernel_rfl
theorem al76 {id : Nat} : vAlloc Tryz.prog 76 id = some (.pointer (some ⟨id, 0, none⟩), .cells [.nilFunc] boxMeta) := by kernel_rfl
theorem al77 {id : Nat} : vAlloc Tryz.prog 77 id = some (.pointer (some ⟨id, 0, none⟩), .cells [.nilFunc] boxMeta) := by kernel_rfl
theorem al78 {id : Nat} : vAlloc Tryz.prog 78 id = some (.pointer (some ⟨id, 0, none⟩), .cells [.nilFunc] boxMeta) := by kernel_rfl
theorem ia79 {id off len c : Nat} {k : IntKind} {n : Int} (h0 : 0 ≤ n) (h1 : n < (len : Int)) : aindexAddr Tryz.prog 79 (.slice (some ⟨id, off, none⟩) len c) (.int k n) = some (.pointer (some ⟨id, off + n.toNat * 2, none⟩)) := ia Tryz.underlying79 sz41 h0 h1
theorem ln79 {n c : Nat} {a : Option Addr} : alen Tryz.prog 79 (.slice a n c) = some (.int .i64 n) := by
 have hu := Tryz.underlying79
 simp [alen, hu, goInt]
theorem al79 {id : Nat} : vAlloc Tryz.prog 79 id = some (.pointer (some ⟨id, 0, none⟩), .cells [.slice none 0 0] boxMeta) := by kernel_rfl
theorem al80 {id : Nat} : vAlloc Tryz.prog 80 id = some (.pointer (some ⟨id, 0, none⟩), .cells [.nilFunc] boxMeta) := by kernel_rfl
theorem al81 {id : Nat} : vAlloc Tryz.prog 81 id = some (.pointer (some ⟨id, 0, none⟩), .cells [.nilFunc] boxMeta) := by kernel_rfl
theorem al82 {id : Nat} : vAlloc Tryz.prog 82 id = some (.pointer (some ⟨id, 0, none⟩), .cells [.nilFunc] boxMeta) := by kernel_rfl
theorem al83 {id : Nat} : vAlloc Tryz.prog 83 id = some (.pointer (some ⟨id, 0, none⟩), .cells [.nilFunc] boxMeta) := by kernel_rfl
theorem al84 {id : Nat} : vAlloc Tryz.prog 84 id = some (.pointer (some ⟨id, 0, none⟩), .cells [.nilFunc] boxMeta) := by kernel_rfl
theorem al85 {id : Nat} : vAlloc Tryz.prog 85 id = some (.pointer (some ⟨id, 0, none⟩), .cells [.nilFunc] boxMeta) := by kernel_rfl
theorem al86 {id : Nat} : vAlloc Tryz.prog 86 id = some (.pointer (some ⟨id, 0, none⟩), .cells [.nilFunc] boxMeta) := by kernel_rfl
theorem al87 {id : Nat} : vAlloc Tryz.prog 87 id = some (.pointer (some ⟨id, 0, none⟩), .cells [.nilFunc] boxMeta) := by kernel_rfl
theorem al88 {id : Nat} : vAlloc Tryz.prog 88 id = some (.pointer (some ⟨id, 0, none⟩), .cells [.nilFunc] boxMeta) := by kernel_rfl
theorem al89 {id : Nat} : vAlloc Tryz.prog 89 id = some (.pointer (some ⟨id, 0, none⟩), .cells [.nilFunc] boxMeta) := by kernel_rfl
theorem al90 {id : Nat} : vAlloc Tryz.prog 90 id = some (.pointer (some ⟨id, 0, none⟩), .cells [.nilFunc] boxMeta) := by kernel_rfl
theorem al91 {id : Nat} : vAlloc Tryz.prog 91 id = some (.pointer (some ⟨id, 0, none⟩), .cells [.nilFunc] boxMeta) := by kernel_rfl
theorem al92 {id : Nat} : vAlloc Tryz.prog 92 id = some (.pointer (some ⟨id, 0, none⟩), .cells [.pointer none] boxMeta) := by kernel_rfl
theorem fa93_0 {id off : Nat} : afieldAddr Tryz.prog 93 (.pointer (some ⟨id, off, none⟩)) 0 = some (.pointer (some ⟨id, off, none⟩)) := by rw [fa (n := 1) Tryz.underlying93 rfl sz39 (by decide)]; rfl
theorem al93 {id : Nat} : vAlloc Tryz.prog 93 id = some (.pointer (some ⟨id, 0, none⟩), .cells [.slice none 0 0] boxMeta) := by kernel_rfl
theorem fa94_0 {id off : Nat} : afieldAddr Tryz.prog 94 (.pointer (some ⟨id, off, none⟩)) 0 = some (.pointer (some ⟨id, off, none⟩)) := by rw [fa (n := 1) Tryz.underlying94 rfl sz39 (by decide)]; rfl
theorem al94 {id : Nat} : vAlloc Tryz.prog 94 id = some (.pointer (some ⟨id, 0, none⟩), .cells [.slice none 0 0] boxMeta) := by kernel_rfl
theorem al95 {id : Nat} : vAlloc Tryz.prog 95 id = some (.pointer (some ⟨id, 0, none⟩), .cells [.nilFunc] boxMeta) := by kernel_rfl
theorem al96 {id : Nat} : vAlloc Tryz.prog 96 id = some (.pointer (some ⟨id, 0, none⟩), .cells [.nilFunc] boxMeta) := by kernel_rfl
theorem al97 {id : Nat} : vAlloc Tryz.prog 97 id = some (.pointer (some ⟨id, 0, none⟩), .cells [.nilFunc] boxMeta) := by kernel_rfl
theorem al98 {id : Nat} : vAlloc Tryz.prog 98 id = some (.pointer (some ⟨id, 0, none⟩), .cells [.nilFunc] boxMeta) := by kernel_rfl
theorem al99 {id : Nat} : vAlloc Tryz.prog 99 id = some (.pointer (some ⟨id, 0, none⟩), .cells [.nilFunc] boxMeta) := by kernel_rfl
theorem al100 {id : Nat} : vAlloc Tryz.prog 100 id = some (.pointer (some ⟨id, 0, none⟩), .cells [.nilFunc] boxMeta) := by kernel_rfl
theorem al102 {id : Nat} : vAlloc Tryz.prog 102 id = some (.pointer (some ⟨id, 0, none⟩), .cells [.nilFunc] boxMeta) := by kernel_rfl
theorem al103 {id : Nat} : vAlloc Tryz.prog 103 id = some (.pointer (some ⟨id, 0, none⟩), .cells [.nilFunc] boxMeta) := by kernel_rfl
theorem al104 {id : Nat} : vAlloc Tryz.prog 104 id = some (.pointer (some ⟨id, 0, none⟩), .cells [.map none] boxMeta) := by kernel_rfl
theorem al105 {id : Nat} : vAlloc Tryz.prog 105 id = some (.pointer (some ⟨id, 0, none⟩), .cells [.nilFunc] boxMeta) := by kernel_rfl
theorem al106 {id : Nat} : vAlloc Tryz.prog 106 id = some (.pointer (some ⟨id, 0, none⟩), .cells [.pointer none] boxMeta) := by kernel_rfl
theorem al107 {id : Nat} : vAlloc Tryz.prog 107 id = some (.pointer (some ⟨id, 0, none⟩), .cells [.nilFunc] boxMeta) := by kernel_rfl
theorem al108 {id : Nat} : vAlloc Tryz.prog 108 id = some (.pointer (some ⟨id, 0, none⟩), .cells [.map none] boxMeta) := by kernel_rfl
theorem al109 {id : Nat} : vAlloc Tryz.prog 109 id = some (.pointer (some ⟨id, 0, none⟩), .cells [.nilFunc] boxMeta) := by kernel_rfl
theorem al110 {id : Nat} : vAlloc Tryz.prog 110 id = some (.pointer (some ⟨id, 0, none⟩), .cells [.int .i64 0, .int .i64 0, .int .i64 0] boxMeta) := by kernel_rfl
theorem al112 {id : Nat} : vAlloc Tryz.prog 112 id = some (.pointer (some ⟨id, 0, none⟩), .cells [.nilFunc] boxMeta) := by kernel_rfl
theorem al113 {id : Nat} : vAlloc Tryz.prog 113 id = some (.pointer (some ⟨id, 0, none⟩), .cells [.nilFunc] boxMeta) := by kernel_rfl
theorem al115 {id : Nat} : vAlloc Tryz.prog 115 id = some (.pointer (some ⟨id, 0, none⟩), .cells [.nilFunc] boxMeta) := by kernel_rfl
theorem al116 {id : Nat} : vAlloc Tryz.prog 116 id = some (.pointer (some ⟨id, 0, none⟩), .cells [.nilFunc] boxMeta) := by kernel_rfl
theorem al118 {id : Nat} : vAlloc Tryz.prog 118 id = some (.pointer (some ⟨id, 0, none⟩), .cells [.nilFunc] boxMeta) := by kernel_rfl
theorem al119 {id : Nat} : vAlloc Tryz.prog 119 id = some (.pointer (some ⟨id, 0, none⟩), .cells [.nilFunc] boxMeta) := by kernel_rfl
theorem al120 {id : Nat} : vAlloc Tryz.prog 120 id = some (.pointer (some ⟨id, 0, none⟩), .cells [.map none] boxMeta) := by kernel_rfl
theorem fa121_0 {id off : Nat} : afieldAddr Tryz.prog 121 (.pointer (some ⟨id, off, none⟩)) 0 = some (.pointer (some ⟨id, off, none⟩)) := by rw [fa (n := 1) Tryz.underlying121 rfl sz39 (by decide)]; rfl
theorem fa121_1 {id off : Nat} : afieldAddr Tryz.prog 121 (.pointer (some ⟨id, off, none⟩)) 1 = some (.pointer (some ⟨id, off + 1, none⟩)) := by rw [fa (n := 1) Tryz.underlying121 rfl sz120 (by decide)]; rfl
theorem al121 {id : Nat} : vAlloc Tryz.prog 121 id = some (.pointer (some ⟨id, 0, none⟩), .cells [.slice none 0 0, .map none] boxMeta) := by kernel_rfl
theorem fa122_0 {id off : Nat} : afieldAddr Tryz.prog 122 (.pointer (some ⟨id, off, none⟩)) 0 = some (.pointer (some ⟨id, off, none⟩)) := by rw [fa (n := 1) Tryz.underlying122 rfl sz39 (by decide)]; rfl
theorem fa122_1 {id off : Nat} : afieldAddr Tryz.prog 122 (.pointer (some ⟨id, off, none⟩)) 1 = some (.pointer (some ⟨id, off + 1, none⟩)) := by rw [fa (n := 1) Tryz.underlying122 rfl sz120 (by decide)]; rfl
theorem al122 {id : Nat} : vAlloc Tryz.prog 122 id = some (.pointer (some ⟨id, 0, none⟩), .cells [.slice none 0 0, .map none] boxMeta) := by kernel_rfl
theorem al123 {id : Nat} : vAlloc Tryz.prog 123 id = some (.pointer (some ⟨id, 0, none⟩), .cells [.map none] boxMeta) := by kernel_rfl
theorem al124 {id : Nat} : vAlloc Tryz.prog 124 id = some (.pointer (some ⟨id, 0, none⟩), .cells [.nilFunc] boxMeta) := by kernel_rfl
theorem al125 {id : Nat} : vAlloc Tryz.prog 125 id = some (.pointer (some ⟨id, 0, none⟩), .cells [.nilFunc] boxMeta) := by kernel_rfl
theorem al126 {id : Nat} : vAlloc Tryz.prog 126 id = some (.pointer (some ⟨id, 0, none⟩), .cells [.nilFunc] boxMeta) := by kernel_rfl
theorem al127 {id : Nat} : vAlloc Tryz.prog 127 id = some (.pointer (some ⟨id, 0, none⟩), .cells [.nilFunc] boxMeta) := by kernel_rfl
theorem al128 {id : Nat} : vAlloc Tryz.prog 128 id = some (.pointer (some ⟨id, 0, none⟩), .cells [.nilFunc] boxMeta) := by kernel_rfl
theorem al130 {id : Nat} : vAlloc Tryz.prog 130 id = some (.pointer (some ⟨id, 0, none⟩), .cells [.int .u64 0] boxMeta) := by kernel_rfl
theorem al131 {id : Nat} : vAlloc Tryz.prog 131 id = some (.pointer (some ⟨id, 0, none⟩), .cells [.nilFunc] boxMeta) := by kernel_rfl
theorem al132 {id : Nat} : vAlloc Tryz.prog 132 id = some (.pointer (some ⟨id, 0, none⟩), .cells [.nilFunc] boxMeta) := by kernel_rfl
theorem al134 {id : Nat} : vAlloc Tryz.prog 134 id = some (.pointer (some ⟨id, 0, none⟩), .cells [.nilFunc] boxMeta) := by kernel_rfl
theorem al135 {id : Nat} : vAlloc Tryz.prog 135 id = some (.pointer (some ⟨id, 0, none⟩), .cells [.nilFunc] boxMeta) := by kernel_rfl
theorem al137 {id : Nat} : vAlloc Tryz.prog 137 id = some (.pointer (some ⟨id, 0, none⟩), .cells [.int .u32 0] boxMeta) := by kernel_rfl
theorem al139 {id : Nat} : vAlloc Tryz.prog 139 id = some (.pointer (some ⟨id, 0, none⟩), .cells [.nilFunc] boxMeta) := by kernel_rfl
theorem al140 {id : Nat} : vAlloc Tryz.prog 140 id = some (.pointer (some ⟨id, 0, none⟩), .cells [.int .u64 0] boxMeta) := by kernel_rfl
theorem al141 {id : Nat} : vAlloc Tryz.prog 141 id = some (.pointer (some ⟨id, 0, none⟩), .cells [.nilFunc] boxMeta) := by kernel_rfl
theorem al142 {id : Nat} : vAlloc Tryz.prog 142 id = some (.pointer (some ⟨id, 0, none⟩), .cells [.nilFunc] boxMeta) := by kernel_rfl
theorem al145 {id : Nat} : vAlloc Tryz.prog 145 id = some (.pointer (some ⟨id, 0, none⟩), .cells [.nilFunc] boxMeta) := by kernel_rfl
theorem fa146_0 {id off : Nat} : afieldAddr Tryz.prog 146 (.pointer (some ⟨id, off, none⟩)) 0 = some (.pointer (some ⟨id, off, none⟩)) := by rw [fa (n := 1) Tryz.underlying146 rfl sz17 (by decide)]; rfl
theorem fa146_1 {id off : Nat} : afieldAddr Tryz.prog 146 (.pointer (some ⟨id, off, none⟩)) 1 = some (.pointer (some ⟨id, off + 1, none⟩)) := by rw [fa (n := 1) Tryz.underlying146 rfl sz17 (by decide)]; rfl
theorem fa146_2 {id off : Nat} : afieldAddr Tryz.prog 146 (.pointer (some ⟨id, off, none⟩)) 2 = some (.pointer (some ⟨id, off + 2, none⟩)) := by rw [fa (n := 1) Tryz.underlying146 rfl sz17 (by decide)]; rfl
theorem fa146_3 {id off : Nat} : afieldAddr Tryz.prog 146 (.pointer (some ⟨id, off, none⟩)) 3 = some (.pointer (some ⟨id, off + 3, none⟩)) := by rw [fa (n := 1) Tryz.underlying146 rfl sz9 (by decide)]; rfl
theorem al146 {id : Nat} : vAlloc Tryz.prog 146 id = some (.pointer (some ⟨id, 0, none⟩), .cells [.pointer none, .pointer none, .pointer none, .string ⟨#[]⟩] boxMeta) := by kernel_rfl
theorem fa147_0 {id off : Nat} : afieldAddr Tryz.prog 147 (.pointer (some ⟨id, off, none⟩)) 0 = some (.pointer (some ⟨id, off, none⟩)) := by rw [fa (n := 1) Tryz.underlying147 rfl sz17 (by decide)]; rfl
theorem fa147_1 {id off : Nat} : afieldAddr Tryz.prog 147 (.pointer (some ⟨id, off, none⟩)) 1 = some (.pointer (some ⟨id, off + 1, none⟩)) := by rw [fa (n := 1) Tryz.underlying147 rfl sz17 (by decide)]; rfl
theorem fa147_2 {id off : Nat} : afieldAddr Tryz.prog 147 (.pointer (some ⟨id, off, none⟩)) 2 = some (.pointer (some ⟨id, off + 2, none⟩)) := by rw [fa (n := 1) Tryz.underlying147 rfl sz17 (by decide)]; rfl
theorem fa147_3 {id off : Nat} : afieldAddr Tryz.prog 147 (.pointer (some ⟨id, off, none⟩)) 3 = some (.pointer (some ⟨id, off + 3, none⟩)) := by rw [fa (n := 1) Tryz.underlying147 rfl sz9 (by decide)]; rfl
theorem al147 {id : Nat} : vAlloc Tryz.prog 147 id = some (.pointer (some ⟨id, 0, none⟩), .cells [.pointer none, .pointer none, .pointer none, .string ⟨#[]⟩] boxMeta) := by kernel_rfl
theorem al148 {id : Nat} : vAlloc Tryz.prog 148 id = some (.pointer (some ⟨id, 0, none⟩), .cells [] boxMeta) := by kernel_rfl
theorem al149 {id : Nat} : vAlloc Tryz.prog 149 id = some (.pointer (some ⟨id, 0, none⟩), .cells [] boxMeta) := by kernel_rfl
theorem al150 {id : Nat} : vAlloc Tryz.prog 150 id = some (.pointer (some ⟨id, 0, none⟩), .cells [] boxMeta) := by kernel_rfl
theorem al151 {id : Nat} : vAlloc Tryz.prog 151 id = some (.pointer (some ⟨id, 0, none⟩), .cells [.nilFunc] boxMeta) := by kernel_rfl
theorem al152 {id : Nat} : vAlloc Tryz.prog 152 id = some (.pointer (some ⟨id, 0, none⟩), .cells [.int .u8 0] boxMeta) := by kernel_rfl
theorem al153 {id : Nat} : vAlloc Tryz.prog 153 id = some (.pointer (some ⟨id, 0, none⟩), .cells [.int .u8 0] boxMeta) := by kernel_rfl
theorem al154 {id : Nat} : vAlloc Tryz.prog 154 id = some (.pointer (some ⟨id, 0, none⟩), .cells [.nilFunc] boxMeta) := by kernel_rfl
theorem al155 {id : Nat} : vAlloc Tryz.prog 155 id = some (.pointer (some ⟨id, 0, none⟩), .cells [.pointer none] boxMeta) := by kernel_rfl
theorem al156 {id : Nat} : vAlloc Tryz.prog 156 id = some (.pointer (some ⟨id, 0, none⟩), .cells [.int .i32 0] boxMeta) := by kernel_rfl
theorem al157 {id : Nat} : vAlloc Tryz.prog 157 id = some (.pointer (some ⟨id, 0, none⟩), .cells [.int .i32 0] boxMeta) := by kernel_rfl
theorem fa158_0 {id off : Nat} : afieldAddr Tryz.prog 158 (.pointer (some ⟨id, off, none⟩)) 0 = some (.pointer (some ⟨id, off, none⟩)) := by rw [fa (n := 1) Tryz.underlying158 rfl sz12 (by decide)]; rfl
theorem fa158_1 {id off : Nat} : afieldAddr Tryz.prog 158 (.pointer (some ⟨id, off, none⟩)) 1 = some (.pointer (some ⟨id, off + 1, none⟩)) := by rw [fa (n := 1) Tryz.underlying158 rfl sz12 (by decide)]; rfl
theorem fa158_2 {id off : Nat} : afieldAddr Tryz.prog 158 (.pointer (some ⟨id, off, none⟩)) 2 = some (.pointer (some ⟨id, off + 2, none⟩)) := by rw [fa (n := 1) Tryz.underlying158 rfl sz137 (by decide)]; rfl
theorem fa158_3 {id off : Nat} : afieldAddr Tryz.prog 158 (.pointer (some ⟨id, off, none⟩)) 3 = some (.pointer (some ⟨id, off + 3, none⟩)) := by rw [fa (n := 1) Tryz.underlying158 rfl sz152 (by decide)]; rfl
theorem fa158_4 {id off : Nat} : afieldAddr Tryz.prog 158 (.pointer (some ⟨id, off, none⟩)) 4 = some (.pointer (some ⟨id, off + 4, none⟩)) := by rw [fa (n := 1) Tryz.underlying158 rfl sz5 (by decide)]; rfl
theorem fa158_5 {id off : Nat} : afieldAddr Tryz.prog 158 (.pointer (some ⟨id, off, none⟩)) 5 = some (.pointer (some ⟨id, off + 5, none⟩)) := by rw [fa (n := 1) Tryz.underlying158 rfl sz5 (by decide)]; rfl
theorem fa158_6 {id off : Nat} : afieldAddr Tryz.prog 158 (.pointer (some ⟨id, off, none⟩)) 6 = some (.pointer (some ⟨id, off + 6, none⟩)) := by rw [fa (n := 1) Tryz.underlying158 rfl sz153 (by decide)]; rfl
theorem fa158_7 {id off : Nat} : afieldAddr Tryz.prog 158 (.pointer (some ⟨id, off, none⟩)) 7 = some (.pointer (some ⟨id, off + 7, none⟩)) := by rw [fa (n := 1) Tryz.underlying158 rfl sz154 (by decide)]; rfl
theorem fa158_8 {id off : Nat} : afieldAddr Tryz.prog 158 (.pointer (some ⟨id, off, none⟩)) 8 = some (.pointer (some ⟨id, off + 8, none⟩)) := by rw [fa (n := 1) Tryz.underlying158 rfl sz155 (by decide)]; rfl
theorem fa158_9 {id off : Nat} : afieldAddr Tryz.prog 158 (.pointer (some ⟨id, off, none⟩)) 9 = some (.pointer (some ⟨id, off + 9, none⟩)) := by rw [fa (n := 1) Tryz.underlying158 rfl sz156 (by decide)]; rfl
theorem fa158_10 {id off : Nat} : afieldAddr Tryz.prog 158 (.pointer (some ⟨id, off, none⟩)) 10 = some (.pointer (some ⟨id, off + 10, none⟩)) := by rw [fa (n := 1) Tryz.underlying158 rfl sz157 (by decide)]; rfl
theorem al158 {id : Nat} : vAlloc Tryz.prog 158 id = some (.pointer (some ⟨id, 0, none⟩), .cells [.int .u64 0, .int .u64 0, .int .u32 0, .int .u8 0, .int .u8 0, .int .u8 0, .int .u8 0, .nilFunc, .pointer none, .int .i32 0, .int .i32 0] boxMeta) := by kernel_rfl
theorem fa159_0 {id off : Nat} : afieldAddr Tryz.prog 159 (.pointer (some ⟨id, off, none⟩)) 0 = some (.pointer (some ⟨id, off, none⟩)) := by rw [fa (n := 1) Tryz.underlying159 rfl sz12 (by decide)]; rfl
theorem fa159_1 {id off : Nat} : afieldAddr Tryz.prog 159 (.pointer (some ⟨id, off, none⟩)) 1 = some (.pointer (some ⟨id, off + 1, none⟩)) := by rw [fa (n := 1) Tryz.underlying159 rfl sz12 (by decide)]; rfl
theorem fa159_2 {id off : Nat} : afieldAddr Tryz.prog 159 (.pointer (some ⟨id, off, none⟩)) 2 = some (.pointer (some ⟨id, off + 2, none⟩)) := by rw [fa (n := 1) Tryz.underlying159 rfl sz137 (by decide)]; rfl
theorem fa159_3 {id off : Nat} : afieldAddr Tryz.prog 159 (.pointer (some ⟨id, off, none⟩)) 3 = some (.pointer (some ⟨id, off + 3, none⟩)) := by rw [fa (n := 1) Tryz.underlying159 rfl sz152 (by decide)]; rfl
theorem fa159_4 {id off : Nat} : afieldAddr Tryz.prog 159 (.pointer (some ⟨id, off, none⟩)) 4 = some (.pointer (some ⟨id, off + 4, none⟩)) := by rw [fa (n := 1) Tryz.underlying159 rfl sz5 (by decide)]; rfl
theorem fa159_5 {id off : Nat} : afieldAddr Tryz.prog 159 (.pointer (some ⟨id, off, none⟩)) 5 = some (.pointer (some ⟨id, off + 5, none⟩)) := by rw [fa (n := 1) Tryz.underlying159 rfl sz5 (by decide)]; rfl
theorem fa159_6 {id off : Nat} : afieldAddr Tryz.prog 159 (.pointer (some ⟨id, off, none⟩)) 6 = some (.pointer (some ⟨id, off + 6, none⟩)) := by rw [fa (n := 1) Tryz.underlying159 rfl sz153 (by decide)]; rfl
theorem fa159_7 {id off : Nat} : afieldAddr Tryz.prog 159 (.pointer (some ⟨id, off, none⟩)) 7 = some (.pointer (some ⟨id, off + 7, none⟩)) := by rw [fa (n := 1) Tryz.underlying159 rfl sz154 (by decide)]; rfl
theorem fa159_8 {id off : Nat} : afieldAddr Tryz.prog 159 (.pointer (some ⟨id, off, none⟩)) 8 = some (.pointer (some ⟨id, off + 8, none⟩)) := by rw [fa (n := 1) Tryz.underlying159 rfl sz155 (by decide)]; rfl
theorem fa159_9 {id off : Nat} : afieldAddr Tryz.prog 159 (.pointer (some ⟨id, off, none⟩)) 9 = some (.pointer (some ⟨id, off + 9, none⟩)) := by rw [fa (n := 1) Tryz.underlying159 rfl sz156 (by decide)]; rfl
theorem fa159_10 {id off : Nat} : afieldAddr Tryz.prog 159 (.pointer (some ⟨id, off, none⟩)) 10 = some (.pointer (some ⟨id, off + 10, none⟩)) := by rw [fa (n := 1) Tryz.underlying159 rfl sz157 (by decide)]; rfl
theorem al159 {id : Nat} : vAlloc Tryz.prog 159 id = some (.pointer (some ⟨id, 0, none⟩), .cells [.int .u64 0, .int .u64 0, .int .u32 0, .int .u8 0, .int .u8 0, .int .u8 0, .int .u8 0, .nilFunc, .pointer none, .int .i32 0, .int .i32 0] boxMeta) := by kernel_rfl
theorem TYA : type_of% (
 And.intro (And.intro (And.intro (And.intro (And.intro (And.intro (And.intro (And.intro (And.intro (@ld2) (@st2)) (And.intro (@ld3) (@st3))) (And.intro (And.intro (@ld4) (@st4)) (And.intro (@ld5)
 (@st5)))) (And.intro (And.intro (And.intro (@ld6) (@st6)) (And.intro (@ld7) (@st7))) (And.intro (And.intro (@ld8) (@st8)) (And.intro (@ld9) (@st9))))) (And.intro (And.intro (And.intro (And.intro
 (@ld10) (@st10)) (And.intro (@ld11) (@st11))) (And.intro (And.intro (@ld12) (@st12)) (And.intro (@ld13) (@st13)))) (And.intro (And.intro (And.intro (@ld14) (@st14)) (And.intro (@ld15) (@st15)))
 (And.intro (And.intro (@ld16) (@st16)) (And.intro (@ld17) (And.intro (@st17) (@ld18))))))) (And.intro (And.intro (And.intro (And.intro (And.intro (@st18) (@ld19)) (And.intro (@st19) (@ld21)))
 (And.intro (And.intro (@st21) (@ld22)) (And.intro (@st22) (@ld23)))) (And.intro (And.intro (And.intro (@st23) (@ld24)) (And.intro (@st24) (@ld25))) (And.intro (And.intro (@st25) (@ld26)) (And.intro
 (@st26) (And.intro (@ld27) (@st27)))))) (And.intro (And.intro (And.intro (And.intro (@ld28) (@st28)) (And.intro (@ld29) (@st29))) (And.intro (And.intro (@ld30) (@st30)) (And.intro (@ld31) (@st31))))
 (And.intro (And.intro (And.intro (@ld32) (@st32)) (And.intro (@ld33) (@st33))) (And.intro (And.intro (@ld34) (@st34)) (And.intro (@ld35) (And.intro (@st35) (@ld36)))))))) (And.intro (And.intro
 (And.intro (And.intro (And.intro (And.intro (@st36) (@ld37)) (And.intro (@st37) (@ld38))) (And.intro (And.intro (@st38) (@ld39)) (And.intro (@st39) (@ld40)))) (And.intro (And.intro (And.intro (@st40)
 (@ld41)) (And.intro (@st41) (@ld42))) (And.intro (And.intro (@st42) (@ld44)) (And.intro (@st44) (And.intro (@ld45) (@st45)))))) (And.intro (And.intro (And.intro (And.intro (@ld46) (@st46)) (And.intro
 (@ld48) (@st48))) (And.intro (And.intro (@ld49) (@st49)) (And.intro (@ld50) (@st50)))) (And.intro (And.intro (And.intro (@ld51) (@st51)) (And.intro (@ld52) (@st52))) (And.intro (And.intro (@ld53)
 (@st53)) (And.intro (@ld54) (And.intro (@st54) (@ld55))))))) (And.intro (And.intro (And.intro (And.intro (And.intro (@st55) (@ld56)) (And.intro (@st56) (@ld57))) (And.intro (And.intro (@st57) (@ld58))
 (And.intro (@st58) (@ld59)))) (And.intro (And.intro (And.intro (@st59) (@ld60)) (And.intro (@st60) (@ld61))) (And.intro (And.intro (@st61) (@ld62)) (And.intro (@st62) (And.intro (@ld63) (@st63))))))
 (And.intro (And.intro (And.intro (And.intro (@ld64) (@st64)) (And.intro (@ld65) (@st65))) (And.intro (And.intro (@ld66) (@st66)) (And.intro (@ld67) (@st67)))) (And.intro (And.intro (And.intro (@ld68)
 (@st68)) (And.intro (@ld69) (@st69))) (And.intro (And.intro (@ld70) (@st70)) (And.intro (@ld71) (And.intro (@st71) (@ld72))))))))) (And.intro (And.intro (And.intro (And.intro (And.intro (And.intro
 (And.intro (@st72) (@ld73)) (And.intro (@st73) (@ld74))) (And.intro (And.intro (@st74) (@ld75)) (And.intro (@st75) (@ld76)))) (And.intro (And.intro (And.intro (@st76) (@ld77)) (And.intro (@st77)
 (@ld78))) (And.intro (And.intro (@st78) (@ld79)) (And.intro (@st79) (@ld80))))) (And.intro (And.intro (And.intro (And.intro (@st80) (@ld81)) (And.intro (@st81) (@ld82))) (And.intro (And.intro (@st82)
 (@ld83)) (And.intro (@st83) (@ld84)))) (And.intro (And.intro (And.intro (@st84) (@ld85)) (And.intro (@st85) (@ld86))) (And.intro (And.intro (@st86) (@ld87)) (And.intro (@st87) (And.intro (@ld88)
 (@st88))))))) (And.intro (And.intro (And.intro (And.intro (And.intro (@ld89) (@st89)) (And.intro (@ld90) (@st90))) (And.intro (And.intro (@ld91) (@st91)) (And.intro (@ld92) (@st92)))) (And.intro
 (And.intro (And.intro (@ld93) (@st93)) (And.intro (@ld94) (@st94))) (And.intro (And.intro (@ld95) (@st95)) (And.intro (@ld96) (And.intro (@st96) (@ld97)))))) (And.intro (And.intro (And.intro
 (And.intro (@st97) (@ld98)) (And.intro (@st98) (@ld99))) (And.intro (And.intro (@st99) (@ld100)) (And.intro (@st100) (@ld102)))) (And.intro (And.intro (And.intro (@st102) (@ld103)) (And.intro (@st103)
 (@ld104))) (And.intro (And.intro (@st104) (@ld105)) (And.intro (@st105) (And.intro (@ld106) (@st106)))))))) (And.intro (And.intro (And.intro (And.intro (And.intro (And.intro (@ld107) (@st107))
 (And.intro (@ld108) (@st108))) (And.intro (And.intro (@ld109) (@st109)) (And.intro (@ld110) (@st110)))) (And.intro (And.intro (And.intro (@ld112) (@st112)) (And.intro (@ld113) (@st113))) (And.intro
 (And.intro (@ld115) (@st115)) (And.intro (@ld116) (And.intro (@st116) (@ld118)))))) (And.intro (And.intro (And.intro (And.intro (@st118) (@ld119)) (And.intro (@st119) (@ld120))) (And.intro (And.intro
 (@st120) (@ld121)) (And.intro (@st121) (@ld122)))) (And.intro (And.intro (And.intro (@st122) (@ld123)) (And.intro (@st123) (@ld124))) (And.intro (And.intro (@st124) (@ld125)) (And.intro (@st125)
 (And.intro (@ld126) (@st126))))))) (And.intro (And.intro (And.intro (And.intro (And.intro (@ld127) (@st127)) (And.intro (@ld128) (@st128))) (And.intro (And.intro (@ld129) (@st129)) (And.intro (@ld130)
 (@st130)))) (And.intro (And.intro (And.intro (@ld131) (@st131)) (And.intro (@ld132) (@st132))) (And.intro (And.intro (@ld134) (@st134)) (And.intro (@ld135) (And.intro (@st135) (@ld136)))))) (And.intro
 (And.intro (And.intro (And.intro (@st136) (@ld137)) (And.intro (@st137) (@ld138))) (And.intro (And.intro (@st138) (@ld139)) (And.intro (@st139) (@ld140)))) (And.intro (And.intro (And.intro (@st140)
 (@ld141)) (And.intro (@st141) (@ld142))) (And.intro (And.intro (@st142) (@ld143)) (And.intro (@st143) (And.intro (@ld144) (@st144)))))))))) (And.intro (And.intro (And.intro (And.intro (And.intro
 (And.intro (And.intro (And.intro (@ld145) (@st145)) (And.intro (@ld146) (@st146))) (And.intro (And.intro (@ld147) (@st147)) (And.intro (@ld148) (@st148)))) (And.intro (And.intro (And.intro (@ld149)
 (@st149)) (And.intro (@ld150) (@st150))) (And.intro (And.intro (@ld151) (@st151)) (And.intro (@ld152) (@st152))))) (And.intro (And.intro (And.intro (And.intro (@ld153) (@st153)) (And.intro (@ld154)
 (@st154))) (And.intro (And.intro (@ld155) (@st155)) (And.intro (@ld156) (@st156)))) (And.intro (And.intro (And.intro (@ld157) (@st157)) (And.intro (@ld158) (@st158))) (And.intro (And.intro (@ld159)
 (@st159)) (And.intro (@al2) (And.intro (@al3) (@al4))))))) (And.intro (And.intro (And.intro (And.intro (And.intro (@al5) (@al6)) (And.intro (@fa7_0) (@fa7_1))) (And.intro (And.intro (@fa7_2) (@fa7_3))
 (And.intro (@al7) (@fa8_0)))) (And.intro (And.intro (And.intro (@fa8_1) (@fa8_2)) (And.intro (@fa8_3) (@al8))) (And.intro (And.intro (@al9) (@al10)) (And.intro (@al11) (And.intro (@al12)
 (@fa13_0)))))) (And.intro (And.intro (And.intro (And.intro (@fa13_1) (@al13)) (And.intro (@fa14_0) (@fa14_1))) (And.intro (And.intro (@al14) (@al15)) (And.intro (@al16) (@al17)))) (And.intro
 (And.intro (And.intro (@fa18_0) (@al18)) (And.intro (@fa19_0) (@al19))) (And.intro (And.intro (@al21) (@ln22)) (And.intro (@al22) (And.intro (@al23) (@al24)))))))) (And.intro (And.intro (And.intro
 (And.intro (And.intro (And.intro (@fa25_0) (@fa25_1)) (And.intro (@al25) (@fa26_0))) (And.intro (And.intro (@fa26_1) (@al26)) (And.intro (@fa27_0) (@fa27_1)))) (And.intro (And.intro (And.intro (@al27)
 (@fa28_0)) (And.intro (@fa28_1) (@al28))) (And.intro (And.intro (@ln29) (@al29)) (And.intro (@fa30_0) (And.intro (@fa30_1) (@fa30_2)))))) (And.intro (And.intro (And.intro (And.intro (@fa30_3)
 (@fa30_4)) (And.intro (@fa30_5) (@al30))) (And.intro (And.intro (@fa31_0) (@fa31_1)) (And.intro (@fa31_2) (@fa31_3)))) (And.intro (And.intro (And.intro (@fa31_4) (@fa31_5)) (And.intro (@al31)
 (@ln32))) (And.intro (And.intro (@al32) (@fa33_0)) (And.intro (@fa33_1) (And.intro (@fa33_2) (@fa33_3))))))) (And.intro (And.intro (And.intro (And.intro (And.intro (@al33) (@fa34_0)) (And.intro
 (@fa34_1) (@fa34_2))) (And.intro (And.intro (@fa34_3) (@al34)) (And.intro (@al35) (@al36)))) (And.intro (And.intro (And.intro (@ln37) (@al37)) (And.intro (@al38) (@ln39))) (And.intro (And.intro
 (@al39) (@fa40_0)) (And.intro (@fa40_1) (And.intro (@al40) (@fa41_0)))))) (And.intro (And.intro (And.intro (And.intro (@fa41_1) (@al41)) (And.intro (@al42) (@al44))) (And.intro (And.intro (@al45)
 (@al46)) (And.intro (@al48) (@al49)))) (And.intro (And.intro (And.intro (@al50) (@al51)) (And.intro (@al52) (@fa53_0))) (And.intro (And.intro (@fa53_1) (@fa53_2)) (And.intro (@al53) (And.intro
 (@fa54_0) (@fa54_1))))))))) (And.intro (And.intro (And.intro (And.intro (And.intro (And.intro (And.intro (@fa54_2) (@al54)) (And.intro (@al55) (@al56))) (And.intro (And.intro (@al57) (@al58))
 (And.intro (@al59) (@al60)))) (And.intro (And.intro (And.intro (@al61) (@al62)) (And.intro (@ln63) (@al63))) (And.intro (And.intro (@al64) (@al65)) (And.intro (@al66) (And.intro (@al67) (@al68))))))
 (And.intro (And.intro (And.intro (And.intro (@al69) (@al70)) (And.intro (@ln71) (@al71))) (And.intro (And.intro (@al72) (@al73)) (And.intro (@al74) (@al75)))) (And.intro (And.intro (And.intro (@al76)
 (@al77)) (And.intro (@al78) (@ln79))) (And.intro (And.intro (@al79) (@al80)) (And.intro (@al81) (And.intro (@al82) (@al83))))))) (And.intro (And.intro (And.intro (And.intro (And.intro (@al84) (@al85))
 (And.intro (@al86) (@al87))) (And.intro (And.intro (@al88) (@al89)) (And.intro (@al90) (@al91)))) (And.intro (And.intro (And.intro (@al92) (@fa93_0)) (And.intro (@al93) (@fa94_0))) (And.intro
 (And.intro (@al94) (@al95)) (And.intro (@al96) (And.intro (@al97) (@al98)))))) (And.intro (And.intro (And.intro (And.intro (@al99) (@al100)) (And.intro (@al102) (@al103))) (And.intro (And.intro
 (@al104) (@al105)) (And.intro (@al106) (@al107)))) (And.intro (And.intro (And.intro (@al108) (@al109)) (And.intro (@al110) (@al112))) (And.intro (And.intro (@al113) (@al115)) (And.intro (@al116)
 (And.intro (@al118) (@al119)))))))) (And.intro (And.intro (And.intro (And.intro (And.intro (And.intro (@al120) (@fa121_0)) (And.intro (@fa121_1) (@al121))) (And.intro (And.intro (@fa122_0) (@fa122_1))
 (And.intro (@al122) (@al123)))) (And.intro (And.intro (And.intro (@al124) (@al125)) (And.intro (@al126) (@al127))) (And.intro (And.intro (@al128) (@al130)) (And.intro (@al131) (And.intro (@al132)
 (@al134)))))) (And.intro (And.intro (And.intro (And.intro (@al135) (@al137)) (And.intro (@al139) (@al140))) (And.intro (And.intro (@al141) (@al142)) (And.intro (@al145) (@fa146_0)))) (And.intro
 (And.intro (And.intro (@fa146_1) (@fa146_2)) (And.intro (@fa146_3) (@al146))) (And.intro (And.intro (@fa147_0) (@fa147_1)) (And.intro (@fa147_2) (And.intro (@fa147_3) (@al147))))))) (And.intro
 (And.intro (And.intro (And.intro (And.intro (@al148) (@al149)) (And.intro (@al150) (@al151))) (And.intro (And.intro (@al152) (@al153)) (And.intro (@al154) (@al155)))) (And.intro (And.intro (And.intro
 (@al156) (@al157)) (And.intro (@fa158_0) (@fa158_1))) (And.intro (And.intro (@fa158_2) (@fa158_3)) (And.intro (@fa158_4) (And.intro (@fa158_5) (@fa158_6)))))) (And.intro (And.intro (And.intro
 (And.intro (@fa158_7) (@fa158_8)) (And.intro (@fa158_9) (@fa158_10))) (And.intro (And.intro (@al158) (@fa159_0)) (And.intro (@fa159_1) (@fa159_2)))) (And.intro (And.intro (And.intro (@fa159_3)
 (@fa159_4)) (And.intro (@fa159_5) (@fa159_6))) (And.intro (And.intro (@fa159_7) (@fa159_8)) (And.intro (@fa159_9) (And.intro (@fa159_10) (@al159))))))))))) :=
 And.intro (And.intro (And.intro (And.intro (And.intro (And.intro (And.intro (And.intro (And.intro (@ld2) (@st2)) (And.intro (@ld3) (@st3))) (And.intro (And.intro (@ld4) (@st4)) (And.intro (@ld5)
 (@st5)))) (And.intro (And.intro (And.intro (@ld6) (@st6)) (And.intro (@ld7) (@st7))) (And.intro (And.intro (@ld8) (@st8)) (And.intro (@ld9) (@st9))))) (And.intro (And.intro (And.intro (And.intro
 (@ld10) (@st10)) (And.intro (@ld11) (@st11))) (And.intro (And.intro (@ld12) (@st12)) (And.intro (@ld13) (@st13)))) (And.intro (And.intro (And.intro (@ld14) (@st14)) (And.intro (@ld15) (@st15)))
 (And.intro (And.intro (@ld16) (@st16)) (And.intro (@ld17) (And.intro (@st17) (@ld18))))))) (And.intro (And.intro (And.intro (And.intro (And.intro (@st18) (@ld19)) (And.intro (@st19) (@ld21)))
 (And.intro (And.intro (@st21) (@ld22)) (And.intro (@st22) (@ld23)))) (And.intro (And.intro (And.intro (@st23) (@ld24)) (And.intro (@st24) (@ld25))) (And.intro (And.intro (@st25) (@ld26)) (And.intro
 (@st26) (And.intro (@ld27) (@st27)))))) (And.intro (And.intro (And.intro (And.intro (@ld28) (@st28)) (And.intro (@ld29) (@st29))) (And.intro (And.intro (@ld30) (@st30)) (And.intro (@ld31) (@st31))))
 (And.intro (And.intro (And.intro (@ld32) (@st32)) (And.intro (@ld33) (@st33))) (And.intro (And.intro (@ld34) (@st34)) (And.intro (@ld35) (And.intro (@st35) (@ld36)))))))) (And.intro (And.intro
 (And.intro (And.intro (And.intro (And.intro (@st36) (@ld37)) (And.intro (@st37) (@ld38))) (And.intro (And.intro (@st38) (@ld39)) (And.intro (@st39) (@ld40)))) (And.intro (And.intro (And.intro (@st40)
 (@ld41)) (And.intro (@st41) (@ld42))) (And.intro (And.intro (@st42) (@ld44)) (And.intro (@st44) (And.intro (@ld45) (@st45)))))) (And.intro (And.intro (And.intro (And.intro (@ld46) (@st46)) (And.intro
 (@ld48) (@st48))) (And.intro (And.intro (@ld49) (@st49)) (And.intro (@ld50) (@st50)))) (And.intro (And.intro (And.intro (@ld51) (@st51)) (And.intro (@ld52) (@st52))) (And.intro (And.intro (@ld53)
 (@st53)) (And.intro (@ld54) (And.intro (@st54) (@ld55))))))) (And.intro (And.intro (And.intro (And.intro (And.intro (@st55) (@ld56)) (And.intro (@st56) (@ld57))) (And.intro (And.intro (@st57) (@ld58))
 (And.intro (@st58) (@ld59)))) (And.intro (And.intro (And.intro (@st59) (@ld60)) (And.intro (@st60) (@ld61))) (And.intro (And.intro (@st61) (@ld62)) (And.intro (@st62) (And.intro (@ld63) (@st63))))))
 (And.intro (And.intro (And.intro (And.intro (@ld64) (@st64)) (And.intro (@ld65) (@st65))) (And.intro (And.intro (@ld66) (@st66)) (And.intro (@ld67) (@st67)))) (And.intro (And.intro (And.intro (@ld68)
 (@st68)) (And.intro (@ld69) (@st69))) (And.intro (And.intro (@ld70) (@st70)) (And.intro (@ld71) (And.intro (@st71) (@ld72))))))))) (And.intro (And.intro (And.intro (And.intro (And.intro (And.intro
 (And.intro (@st72) (@ld73)) (And.intro (@st73) (@ld74))) (And.intro (And.intro (@st74) (@ld75)) (And.intro (@st75) (@ld76)))) (And.intro (And.intro (And.intro (@st76) (@ld77)) (And.intro (@st77)
 (@ld78))) (And.intro (And.intro (@st78) (@ld79)) (And.intro (@st79) (@ld80))))) (And.intro (And.intro (And.intro (And.intro (@st80) (@ld81)) (And.intro (@st81) (@ld82))) (And.intro (And.intro (@st82)
 (@ld83)) (And.intro (@st83) (@ld84)))) (And.intro (And.intro (And.intro (@st84) (@ld85)) (And.intro (@st85) (@ld86))) (And.intro (And.intro (@st86) (@ld87)) (And.intro (@st87) (And.intro (@ld88)
 (@st88))))))) (And.intro (And.intro (And.intro (And.intro (And.intro (@ld89) (@st89)) (And.intro (@ld90) (@st90))) (And.intro (And.intro (@ld91) (@st91)) (And.intro (@ld92) (@st92)))) (And.intro
 (And.intro (And.intro (@ld93) (@st93)) (And.intro (@ld94) (@st94))) (And.intro (And.intro (@ld95) (@st95)) (And.intro (@ld96) (And.intro (@st96) (@ld97)))))) (And.intro (And.intro (And.intro
 (And.intro (@st97) (@ld98)) (And.intro (@st98) (@ld99))) (And.intro (And.intro (@st99) (@ld100)) (And.intro (@st100) (@ld102)))) (And.intro (And.intro (And.intro (@st102) (@ld103)) (And.intro (@st103)
 (@ld104))) (And.intro (And.intro (@st104) (@ld105)) (And.intro (@st105) (And.intro (@ld106) (@st106)))))))) (And.intro (And.intro (And.intro (And.intro (And.intro (And.intro (@ld107) (@st107))
 (And.intro (@ld108) (@st108))) (And.intro (And.intro (@ld109) (@st109)) (And.intro (@ld110) (@st110)))) (And.intro (And.intro (And.intro (@ld112) (@st112)) (And.intro (@ld113) (@st113))) (And.intro
 (And.intro (@ld115) (@st115)) (And.intro (@ld116) (And.intro (@st116) (@ld118)))))) (And.intro (And.intro (And.intro (And.intro (@st118) (@ld119)) (And.intro (@st119) (@ld120))) (And.intro (And.intro
 (@st120) (@ld121)) (And.intro (@st121) (@ld122)))) (And.intro (And.intro (And.intro (@st122) (@ld123)) (And.intro (@st123) (@ld124))) (And.intro (And.intro (@st124) (@ld125)) (And.intro (@st125)
 (And.intro (@ld126) (@st126))))))) (And.intro (And.intro (And.intro (And.intro (And.intro (@ld127) (@st127)) (And.intro (@ld128) (@st128))) (And.intro (And.intro (@ld129) (@st129)) (And.intro (@ld130)
 (@st130)))) (And.intro (And.intro (And.intro (@ld131) (@st131)) (And.intro (@ld132) (@st132))) (And.intro (And.intro (@ld134) (@st134)) (And.intro (@ld135) (And.intro (@st135) (@ld136)))))) (And.intro
 (And.intro (And.intro (And.intro (@st136) (@ld137)) (And.intro (@st137) (@ld138))) (And.intro (And.intro (@st138) (@ld139)) (And.intro (@st139) (@ld140)))) (And.intro (And.intro (And.intro (@st140)
 (@ld141)) (And.intro (@st141) (@ld142))) (And.intro (And.intro (@st142) (@ld143)) (And.intro (@st143) (And.intro (@ld144) (@st144)))))))))) (And.intro (And.intro (And.intro (And.intro (And.intro
 (And.intro (And.intro (And.intro (@ld145) (@st145)) (And.intro (@ld146) (@st146))) (And.intro (And.intro (@ld147) (@st147)) (And.intro (@ld148) (@st148)))) (And.intro (And.intro (And.intro (@ld149)
 (@st149)) (And.intro (@ld150) (@st150))) (And.intro (And.intro (@ld151) (@st151)) (And.intro (@ld152) (@st152))))) (And.intro (And.intro (And.intro (And.intro (@ld153) (@st153)) (And.intro (@ld154)
 (@st154))) (And.intro (And.intro (@ld155) (@st155)) (And.intro (@ld156) (@st156)))) (And.intro (And.intro (And.intro (@ld157) (@st157)) (And.intro (@ld158) (@st158))) (And.intro (And.intro (@ld159)
 (@st159)) (And.intro (@al2) (And.intro (@al3) (@al4))))))) (And.intro (And.intro (And.intro (And.intro (And.intro (@al5) (@al6)) (And.intro (@fa7_0) (@fa7_1))) (And.intro (And.intro (@fa7_2) (@fa7_3))
 (And.intro (@al7) (@fa8_0)))) (And.intro (And.intro (And.intro (@fa8_1) (@fa8_2)) (And.intro (@fa8_3) (@al8))) (And.intro (And.intro (@al9) (@al10)) (And.intro (@al11) (And.intro (@al12)
 (@fa13_0)))))) (And.intro (And.intro (And.intro (And.intro (@fa13_1) (@al13)) (And.intro (@fa14_0) (@fa14_1))) (And.intro (And.intro (@al14) (@al15)) (And.intro (@al16) (@al17)))) (And.intro
 (And.intro (And.intro (@fa18_0) (@al18)) (And.intro (@fa19_0) (@al19))) (And.intro (And.intro (@al21) (@ln22)) (And.intro (@al22) (And.intro (@al23) (@al24)))))))) (And.intro (And.intro (And.intro
 (And.intro (And.intro (And.intro (@fa25_0) (@fa25_1)) (And.intro (@al25) (@fa26_0))) (And.intro (And.intro (@fa26_1) (@al26)) (And.intro (@fa27_0) (@fa27_1)))) (And.intro (And.intro (And.intro (@al27)
 (@fa28_0)) (And.intro (@fa28_1) (@al28))) (And.intro (And.intro (@ln29) (@al29)) (And.intro (@fa30_0) (And.intro (@fa30_1) (@fa30_2)))))) (And.intro (And.intro (And.intro (And.intro (@fa30_3)
 (@fa30_4)) (And.intro (@fa30_5) (@al30))) (And.intro (And.intro (@fa31_0) (@fa31_1)) (And.intro (@fa31_2) (@fa31_3)))) (And.intro (And.intro (And.intro (@fa31_4) (@fa31_5)) (And.intro (@al31)
 (@ln32))) (And.intro (And.intro (@al32) (@fa33_0)) (And.intro (@fa33_1) (And.intro (@fa33_2) (@fa33_3))))))) (And.intro (And.intro (And.intro (And.intro (And.intro (@al33) (@fa34_0)) (And.intro
 (@fa34_1) (@fa34_2))) (And.intro (And.intro (@fa34_3) (@al34)) (And.intro (@al35) (@al36)))) (And.intro (And.intro (And.intro (@ln37) (@al37)) (And.intro (@al38) (@ln39))) (And.intro (And.intro
 (@al39) (@fa40_0)) (And.intro (@fa40_1) (And.intro (@al40) (@fa41_0)))))) (And.intro (And.intro (And.intro (And.intro (@fa41_1) (@al41)) (And.intro (@al42) (@al44))) (And.intro (And.intro (@al45)
 (@al46)) (And.intro (@al48) (@al49)))) (And.intro (And.intro (And.intro (@al50) (@al51)) (And.intro (@al52) (@fa53_0))) (And.intro (And.intro (@fa53_1) (@fa53_2)) (And.intro (@al53) (And.intro
 (@fa54_0) (@fa54_1))))))))) (And.intro (And.intro (And.intro (And.intro (And.intro (And.intro (And.intro (@fa54_2) (@al54)) (And.intro (@al55) (@al56))) (And.intro (And.intro (@al57) (@al58))
 (And.intro (@al59) (@al60)))) (And.intro (And.intro (And.intro (@al61) (@al62)) (And.intro (@ln63) (@al63))) (And.intro (And.intro (@al64) (@al65)) (And.intro (@al66) (And.intro (@al67) (@al68))))))
 (And.intro (And.intro (And.intro (And.intro (@al69) (@al70)) (And.intro (@ln71) (@al71))) (And.intro (And.intro (@al72) (@al73)) (And.intro (@al74) (@al75)))) (And.intro (And.intro (And.intro (@al76)
 (@al77)) (And.intro (@al78) (@ln79))) (And.intro (And.intro (@al79) (@al80)) (And.intro (@al81) (And.intro (@al82) (@al83))))))) (And.intro (And.intro (And.intro (And.intro (And.intro (@al84) (@al85))
 (And.intro (@al86) (@al87))) (And.intro (And.intro (@al88) (@al89)) (And.intro (@al90) (@al91)))) (And.intro (And.intro (And.intro (@al92) (@fa93_0)) (And.intro (@al93) (@fa94_0))) (And.intro
 (And.intro (@al94) (@al95)) (And.intro (@al96) (And.intro (@al97) (@al98)))))) (And.intro (And.intro (And.intro (And.intro (@al99) (@al100)) (And.intro (@al102) (@al103))) (And.intro (And.intro
 (@al104) (@al105)) (And.intro (@al106) (@al107)))) (And.intro (And.intro (And.intro (@al108) (@al109)) (And.intro (@al110) (@al112))) (And.intro (And.intro (@al113) (@al115)) (And.intro (@al116)
 (And.intro (@al118) (@al119)))))))) (And.intro (And.intro (And.intro (And.intro (And.intro (And.intro (@al120) (@fa121_0)) (And.intro (@fa121_1) (@al121))) (And.intro (And.intro (@fa122_0) (@fa122_1))
 (And.intro (@al122) (@al123)))) (And.intro (And.intro (And.intro (@al124) (@al125)) (And.intro (@al126) (@al127))) (And.intro (And.intro (@al128) (@al130)) (And.intro (@al131) (And.intro (@al132)
 (@al134)))))) (And.intro (And.intro (And.intro (And.intro (@al135) (@al137)) (And.intro (@al139) (@al140))) (And.intro (And.intro (@al141) (@al142)) (And.intro (@al145) (@fa146_0)))) (And.intro
 (And.intro (And.intro (@fa146_1) (@fa146_2)) (And.intro (@fa146_3) (@al146))) (And.intro (And.intro (@fa147_0) (@fa147_1)) (And.intro (@fa147_2) (And.intro (@fa147_3) (@al147))))))) (And.intro
 (And.intro (And.intro (And.intro (And.intro (@al148) (@al149)) (And.intro (@al150) (@al151))) (And.intro (And.intro (@al152) (@al153)) (And.intro (@al154) (@al155)))) (And.intro (And.intro (And.intro
 (@al156) (@al157)) (And.intro (@fa158_0) (@fa158_1))) (And.intro (And.intro (@fa158_2) (@fa158_3)) (And.intro (@fa158_4) (And.intro (@fa158_5) (@fa158_6)))))) (And.intro (And.intro (And.intro
 (And.intro (@fa158_7) (@fa158_8)) (And.intro (@fa158_9) (@fa158_10))) (And.intro (And.intro (@al158) (@fa159_0)) (And.intro (@fa159_1) (@fa159_2)))) (And.intro (And.intro (And.intro (@fa159_3)
 (@fa159_4)) (And.intro (@fa159_5) (@fa159_6))) (And.intro (And.intro (@fa159_7) (@fa159_8)) (And.intro (@fa159_9) (And.intro (@fa159_10) (@al159))))))))))
end Go.Proofs.Q
