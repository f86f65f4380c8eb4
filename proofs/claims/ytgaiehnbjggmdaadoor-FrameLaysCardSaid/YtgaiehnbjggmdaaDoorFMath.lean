/- The regions of chapter 19, plain: their bytes, and where a number is read: no program. -/
import Derived.Test.YtgaiehnbjggmdaaDoorFNew
namespace Go.Proofs.YtgaiehnbjggmdaaDoor.F
open Go.Ob Go.RowKit Go.Proofs.YtgaiehnbjggmdaaDoorW.PrintWords Go.Proofs.YtgaiehnbjggmdaaDoorW.PrintMore
set_option linter.unusedVariables false
set_option linter.unusedSimpArgs false
/-- numbers, each as its eight bytes -/
def b8 (l : List Int) : List Int := l.flatMap fun v => bytesOf v 8
theorem b8_length (l : List Int) : (b8 l).length = 8 * l.length := by
  induction l with
  | nil => rfl
  | cons v l ih => simp only [b8, List.flatMap_cons, List.length_append, bytesOf_length, List.length_cons] at ih ⊢; omega
theorem b8_append (l m : List Int) : b8 (l ++ m) = b8 l ++ b8 m := by simp [b8]
theorem b8_one (v : Int) : b8 [v] = bytesOf v 8 := by simp [b8]
theorem b8_bytes (l : List Int) : ∀ b ∈ b8 l, 0 ≤ b ∧ b < 256 := by
  intro b hb
  simp only [b8, List.mem_flatMap] at hb
  obtain ⟨v, _, h⟩ := hb
  exact bytesOf_bytes v 8 b h
theorem zeros_bytes (n : Nat) : ∀ b ∈ List.replicate n (0 : Int), 0 ≤ b ∧ b < 256 := by
  intro b hb
  rw [List.eq_of_mem_replicate hb]
  decide
/-- the data region with the first i globals laid -/
def dI (gl : List Int) (i : Nat) : List Int := List.replicate 40 0 ++ (b8 (gl.take i) ++ List.replicate (8 * (gl.length - i)) 0)
theorem dI_len (gl : List Int) (i : Nat) (h : i ≤ gl.length) : (dI gl i).length = 40 + 8 * gl.length := by
  simp only [dI, List.length_append, List.length_replicate, b8_length, List.length_take]
  omega
theorem dI_zero (gl : List Int) : dI gl 0 = List.replicate (40 + 8 * gl.length) 0 := by
  unfold dI
  rw [List.take_zero, show b8 [] = [] from rfl, List.nil_append, Nat.sub_zero, List.replicate_append_replicate]
theorem spl_mid (A B Z ys : List Int) (h : ys.length ≤ Z.length) : spl (A ++ (B ++ Z)) (A.length + B.length) ys = A ++ (B ++ ys) ++ Z.drop ys.length := by
  unfold spl
  have e1 : (A ++ (B ++ Z)).take (A.length + B.length) = A ++ B := by
    rw [← List.append_assoc, ← List.length_append, List.take_left]
  have e2 : (A ++ (B ++ Z)).drop (A.length + B.length + ys.length) = Z.drop ys.length := by
    rw [← List.append_assoc, ← List.length_append, List.drop_append]
    simp
  rw [e1, e2]
  simp [List.append_assoc]
theorem dI_step (gl : List Int) (i : Nat) (h : i < gl.length) : spl (dI gl i) (40 + 8 * i) (bytesOf gl[i] 8) = dI gl (i + 1) := by
  have hl : (b8 (gl.take i)).length = 8 * i := by rw [b8_length, List.length_take]; omega
  have := spl_mid (List.replicate 40 (0 : Int)) (b8 (gl.take i)) (List.replicate (8 * (gl.length - i)) 0) (bytesOf gl[i] 8) (by rw [bytesOf_length, List.length_replicate]; omega)
  rw [List.length_replicate, hl] at this
  unfold dI
  rw [this, bytesOf_length, List.drop_replicate, List.take_succ_eq_append_getElem h, b8_append, b8_one, show 8 * (gl.length - i) - 8 = 8 * (gl.length - (i + 1)) by omega]
  simp [List.append_assoc]
/-- the data region's bytes -/
def dataL (gl : List Int) : List Int := List.replicate 40 0 ++ b8 gl
theorem dI_all (gl : List Int) : dI gl gl.length = dataL gl := by simp [dI, dataL]
theorem dataL_len (gl : List Int) : (dataL gl).length = 40 + 8 * gl.length := by simp only [dataL, List.length_append, List.length_replicate, b8_length]
theorem dataL_bytes (gl : List Int) : ∀ b ∈ dataL gl, 0 ≤ b ∧ b < 256 := by
  intro b hb
  rcases List.mem_append.mp hb with hb | hb
  · exact zeros_bytes _ b hb
  · exact b8_bytes _ b hb
/-- arguments laid over the first of some bytes -/
def aI (xs args : List Int) (k : Nat) : List Int := b8 (args.take k) ++ xs.drop (8 * k)
theorem aI_zero (xs args : List Int) : aI xs args 0 = xs := by simp [aI, b8]
theorem aI_len (xs args : List Int) (k : Nat) (hk : k ≤ args.length) (h : 8 * args.length ≤ xs.length) : (aI xs args k).length = xs.length := by
  simp only [aI, List.length_append, b8_length, List.length_take, List.length_drop]
  omega
theorem aI_step (xs args : List Int) (k : Nat) (hk : k < args.length) (h : 8 * args.length ≤ xs.length) : spl (aI xs args k) (8 * k) (bytesOf args[k] 8) = aI xs args (k + 1) := by
  have hl : (b8 (args.take k)).length = 8 * k := by rw [b8_length, List.length_take]; omega
  have := spl_mid [] (b8 (args.take k)) (xs.drop (8 * k)) (bytesOf args[k] 8) (by rw [bytesOf_length, List.length_drop]; omega)
  rw [hl, List.length_nil, Nat.zero_add, List.nil_append, List.nil_append] at this
  unfold aI
  rw [this, bytesOf_length, List.drop_drop, List.take_succ_eq_append_getElem hk, b8_append, b8_one, show 8 * k + 8 = 8 * (k + 1) by omega]
/-- the stack's bytes, with a number at its end -/
theorem stack_put (v : Int) : spl (List.replicate 16384 (0 : Int)) 16376 (bytesOf v 8) = List.replicate 16376 0 ++ bytesOf v 8 := by
  have := spl_mid [] (List.replicate 16376 (0 : Int)) (List.replicate 8 0) (bytesOf v 8) (by rw [bytesOf_length, List.length_replicate]; exact Nat.le_refl _)
  rw [List.length_nil, Nat.zero_add, List.nil_append, List.nil_append, List.length_replicate, bytesOf_length] at this
  rw [show List.replicate 16384 (0 : Int) = List.replicate 16376 0 ++ List.replicate 8 0 by rw [List.replicate_append_replicate], this]
  rw [List.drop_replicate, Nat.sub_self, List.replicate_zero, List.append_nil]
/-- a region: where, its bytes, whether it is code -/
abbrev R3 := Int × ByteArray × Bool
def c3 (r : R3) : List Value := [.int .i64 r.1, .string r.2.1, .bool r.2.2]
def cl3 (l : List R3) : List Value := l.flatMap c3
/-- a memory's region, if there is one -/
def memR (k e : Int) (ds : List D3) : List R3 := if memOk k e then [(131072 + 65536 * k, news k e ds, false)] else []
theorem num_size (l : List Int) : (strOfNums l).size = l.length := by
  simp [strOfNums, ByteArray.size]
theorem news_none {k e : Int} {ds : List D3} : news k e ds = ⟨#[]⟩ ↔ memOk k e = false := by
  unfold news
  cases h : memOk k e
  · simp
  · simp only [if_true]
    constructor
    · intro hh
      have h1 := congrArg ByteArray.size hh
      rw [num_size] at h1
      unfold newM at h1
      rw [lays_length, List.length_replicate] at h1
      have := Nat.one_le_two_pow (n := e.toNat)
      rw [h1] at this
      exact absurd this (by decide)
    · intro hh
      cases hh
theorem memR_no {k e : Int} {ds : List D3} (h : news k e ds = ⟨#[]⟩) : memR k e ds = [] := by
  unfold memR
  rw [news_none.mp h]
  simp
theorem memR_yes {k e : Int} {ds : List D3} (h : news k e ds ≠ ⟨#[]⟩) : memR k e ds = [(131072 + 65536 * k, news k e ds, false)] := by
  unfold memR
  cases hm : memOk k e
  · exact absurd (news_none.mpr hm) h
  · simp
theorem cl3_append (l m : List R3) : cl3 (l ++ m) = cl3 l ++ cl3 m := by simp [cl3]
theorem cl3_len (l : List R3) : (cl3 l).length = l.length * 3 := by
  induction l with
  | nil => rfl
  | cons r l ih => simp only [cl3, List.flatMap_cons, List.length_append, List.length_cons, c3] at ih ⊢; simp only [List.length_nil]; omega
/-- a program's regions -/
def regs (code : ByteArray) (data stack : List Int) (m0 m1 : Int) (ds : List D3) : List R3 :=
  [(1048576, code, true), (65536, strOfNums data, false)] ++ memR 0 m0 ds ++ memR 1 m1 ds ++ [(262144, strOfNums stack, false)]
end Go.Proofs.YtgaiehnbjggmdaaDoor.F
