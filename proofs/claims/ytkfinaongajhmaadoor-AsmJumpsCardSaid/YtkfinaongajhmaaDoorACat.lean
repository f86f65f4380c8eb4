/- What was assembled is instructions one behind the other, and items behind items: plain, no program. -/
import Derived.Test.YtkfinaongajhmaaDoorAExamples
import Derived.Test.YtkfinaongajhmaaDoorXAllP
namespace Go.Proofs.YtkfinaongajhmaaDoor.X
open Go.Ob Go.Ob.Xc Go.RowKit Go.Proofs.YtkfinaongajhmaaDoorW.PrintWords Go.Proofs.YtkfinaongajhmaaDoorW.PrintMore
set_option linter.unusedVariables false
set_option linter.unusedSimpArgs false
/-- where some instructions begin, from k on -/
def offs : Int → List XI → List Int
  | _, [] => []
  | k, x :: l => k :: offs (k + (enc x).length) l
theorem offs_append (X Y : List XI) : ∀ k, offs k (X ++ Y) = offs k X ++ offs (k + (cat X).length) Y := by
  induction X with
  | nil => intro k; simp [offs, cat]
  | cons x X ih =>
    intro k
    rw [List.cons_append, offs, offs, ih, List.cons_append, cat, List.length_append, Int.natCast_add, Int.add_assoc]
theorem offs_shift (X : List XI) (d : Int) : ∀ k, offs (d + k) X = (offs k X).map (d + ·) := by
  induction X with
  | nil => intro k; simp [offs]
  | cons x X ih =>
    intro k
    rw [offs, offs, List.map_cons, Int.add_assoc, ih]
theorem offs_length (X : List XI) : ∀ k, (offs k X).length = X.length := by
  induction X with
  | nil => intro k; simp [offs]
  | cons x X ih => intro k; rw [offs, List.length_cons, List.length_cons, ih]
/-- are they instructions, with numbers of 64 bits -/
def Ins (X : List XI) : Prop := ∀ x ∈ X, right x = true ∧ NB x
theorem Ins.app {X Y : List XI} (h : Ins X) (h2 : Ins Y) : Ins (X ++ Y) := by
  intro x hx
  rcases List.mem_append.mp hx with hx | hx
  · exact h x hx
  · exact h2 x hx
theorem enc_pos {x : XI} (h : right x = true) : 1 ≤ (enc x).length := (sizes h).1
theorem startsF_cat (X : List XI) : ∀ (pre : List Int) (f : Nat) (acc : List Int), Ins X → (cat X).length < f → startsF f (pre ++ cat X) pre.length acc = some (acc ++ offs pre.length X) := by
  induction X with
  | nil =>
    intro pre f acc _ hf
    obtain ⟨f, rfl⟩ : ∃ g, f = g + 1 := ⟨f - 1, by omega⟩
    unfold startsF
    rw [if_pos (by simp [cat])]
    simp [offs]
  | cons x X ih =>
    intro pre f acc hX hf
    obtain ⟨f, rfl⟩ : ∃ g, f = g + 1 := ⟨f - 1, by omega⟩
    obtain ⟨hr, hn⟩ := hX x (List.mem_cons_self ..)
    have hp := enc_pos hr
    unfold startsF
    rw [cat, List.length_append] at hf
    rw [if_neg (by simp [cat]; omega), List.drop_left, cat, dec_enc x (cat X) hr hn]
    dsimp only
    have h := ih (pre ++ enc x) f (acc ++ [(pre.length : Int)]) (fun y hy => hX y (List.mem_cons_of_mem _ hy)) (by omega)
    rw [List.length_append, List.append_assoc] at h
    rw [h, offs, List.append_assoc, Int.natCast_add]
    rfl
theorem starts_cat (X : List XI) (h : Ins X) : starts (cat X) = some (offs 0 X) := by
  have := startsF_cat X [] ((cat X).length + 1) [] h (by omega)
  unfold starts
  simpa using this
/-- item k as an instruction: its jump laid -/
def res (L : List It) (k : Nat) : XI :=
  let t := L.getD k default
  if 0 < t.to then { t.x with n := (lk L L.length t.to).getD 0 - pos L (k + 1) } else t.x
/-- the instructions among the first n -/
def ins (L : List It) : Nat → List XI
  | 0 => []
  | n + 1 => if 0 < (L.getD n default).lab then ins L n else ins L n ++ [res L n]
theorem encj_len {x : XI} (h : isJ x.op) (m : Int) : (enc { x with n := m }).length = (enc x).length := by
  obtain ⟨op, w, r, b, i, c, n⟩ := x
  rcases h with h | h | h <;> dsimp only at h <;> subst h <;> simp [enc, le4]
/-- an item that is no label -/
theorem item_ins {L : List It} {k : Nat} {b : List Int} (hl : ¬ 0 < (L.getD k default).lab) (h : itemB L k = some b) (hok : (lenI (L.getD k default)).isSome = true) :
    b = enc (res L k) ∧ right (res L k) = true ∧ (lenI (L.getD k default)).getD 0 = (enc (res L k)).length ∧ (0 < (L.getD k default).to → isJ (L.getD k default).x.op ∧ (L.getD k default).x.n = 0 ∧ ∃ p, lk L L.length (L.getD k default).to = some p) := by
  have h0 : (L.getD k default).lab = 0 := by have := lab_of hok; omega
  unfold itemB at h
  unfold res
  dsimp only at h ⊢
  generalize L.getD k default = t at *
  rw [if_neg hl] at h
  unfold lenI at hok ⊢
  split at hok
  · rename_i ht
    try rw [if_pos h0] at hok
    split at hok
    · rename_i hr
      rw [if_pos ht, if_pos h0, if_pos hr]
      by_cases hto : 0 < t.to
      · rw [if_pos hto] at h ⊢
        have hj : isJ t.x.op ∧ t.x.n = 0 := by
          unfold toOk at ht
          rcases ht with ⟨h1, h2⟩ | ⟨h1, h2⟩
          · exact ⟨h1, by omega⟩
          · omega
        split at h
        · cases h
        · rename_i p hp
          split at h
          · rename_i hr2
            simp only [Option.some.injEq] at h
            rw [hp]
            exact ⟨h.symm, hr2, (encj_len hj.1 _).symm, fun _ => ⟨hj.1, hj.2, p, rfl⟩⟩
          · cases h
      · rw [if_neg hto] at h ⊢
        have h' : enc t.x = b := by simpa [hr] using h
        exact ⟨h'.symm, hr, rfl, fun c => absurd c hto⟩
    · cases hok
  · cases hok
theorem okL_get {L : List It} (h : okL L = true) {k : Nat} (hk : k < L.length) : (lenI (L.getD k default)).isSome = true := by
  unfold okL at h
  rw [List.all_eq_true] at h
  rw [List.getD_eq_getElem?_getD, List.getElem?_eq_getElem hk]
  exact h _ (List.getElem_mem hk)
theorem len_lab {t : It} (h : 0 < t.lab) (hok : (lenI t).isSome = true) : (lenI t).getD 0 = 0 := by
  unfold lenI at hok ⊢
  split at hok
  · rename_i ht
    rw [if_neg (by omega)] at hok
    rw [if_pos ht, if_neg (by omega)]
    split
    · rfl
    · rfl
  · cases hok
theorem pos_get {L : List It} {k : Nat} (hk : k < L.length) : pos L (k + 1) = pos L k + (((lenI (L.getD k default)).getD 0 : Nat) : Int) := by
  rw [pos_succ L k hk, List.getD_eq_getElem?_getD, List.getElem?_eq_getElem hk]
  rfl
theorem itemsB_ins {L : List It} (hok : okL L = true) : ∀ (n : Nat) (a : List Int), n ≤ L.length → itemsB L n = some a → a = cat (ins L n) ∧ (a.length : Int) = pos L n ∧ ∀ x ∈ ins L n, right x = true
  | 0, a, _, h => by
    unfold itemsB at h
    simp only [Option.some.injEq] at h
    subst h
    exact ⟨rfl, by rw [pos_zero]; rfl, by simp [ins]⟩
  | n + 1, a, hn, h => by
    unfold itemsB at h
    split at h
    · rename_i c b hc hb
      simp only [Option.some.injEq] at h
      subst h
      obtain ⟨h1, h2, h3⟩ := itemsB_ins hok n c (by omega) hc
      have hk := okL_get hok (show n < L.length by omega)
      unfold ins
      by_cases hl : 0 < (L.getD n default).lab
      · rw [if_pos hl]
        unfold itemB at hb
        dsimp only at hb
        rw [if_pos hl] at hb
        simp only [Option.some.injEq] at hb
        subst hb
        rw [List.append_nil]
        refine ⟨h1, ?_, h3⟩
        rw [pos_get (by omega), len_lab hl hk, h2]
        simp
      · rw [if_neg hl]
        obtain ⟨e1, e2, e3, -⟩ := item_ins hl hb hk
        refine ⟨?_, ?_, ?_⟩
        · rw [cat_append, ← h1, e1]
          simp [cat]
        · rw [pos_get (by omega), List.length_append, Int.natCast_add, h2, e3, e1]
        · intro x hx
          rcases List.mem_append.mp hx with hx | hx
          · exact h3 x hx
          · rw [List.mem_singleton] at hx
            rw [hx]
            exact e2
    · cases h
theorem itemsB_le {L : List It} {n m : Nat} {b : List Int} (hnm : n ≤ m) (h : itemsB L m = some b) : ∃ a, itemsB L n = some a := by
  cases hc : itemsB L n with
  | some a => exact ⟨a, rfl⟩
  | none => rw [itemsB_none hnm hc] at h; cases h
theorem itemsB_item {L : List It} {n m : Nat} {b : List Int} (hnm : n < m) (h : itemsB L m = some b) : ∃ a, itemB L n = some a := by
  obtain ⟨a, ha⟩ := itemsB_le (show n + 1 ≤ m from hnm) h
  unfold itemsB at ha
  split at ha
  · rename_i c d hc hd
    exact ⟨d, hd⟩
  · cases ha
theorem res_nb {L : List It} (hL : L.length ≤ 1000) (hi : ∀ t ∈ L, NB t.x) {k : Nat} (hk : k < L.length) : NB (res L k) := by
  have hx : NB (L.getD k default).x := by
    rw [List.getD_eq_getElem?_getD, List.getElem?_eq_getElem hk]
    exact hi _ (List.getElem_mem hk)
  have hp := pos_bd L (k + 1)
  have hl := lk_bd L L.length (L.getD k default).to
  unfold res
  dsimp only
  split
  · unfold NB
    dsimp only
    cases h : lk L L.length (L.getD k default).to with
    | none => rw [Option.getD_none]; omega
    | some v => have := hl v h; rw [Option.getD_some]; omega
  · exact hx
theorem ins_nb {L : List It} (hL : L.length ≤ 1000) (hi : ∀ t ∈ L, NB t.x) : ∀ n, n ≤ L.length → ∀ x ∈ ins L n, NB x
  | 0, _, x, hx => by simp [ins] at hx
  | n + 1, hn, x, hx => by
    unfold ins at hx
    split at hx
    · exact ins_nb hL hi n (by omega) x hx
    · rcases List.mem_append.mp hx with hx | hx
      · exact ins_nb hL hi n (by omega) x hx
      · rw [List.mem_singleton] at hx
        rw [hx]
        exact res_nb hL hi (by omega)
/-- what an assembled text is -/
theorem asm_ins {L : List It} {s : List Int} (hL : L.length ≤ 1000) (hi : ∀ t ∈ L, NB t.x) (h : asmB L = some s) :
    okL L = true ∧ nd L L.length = true ∧ itemsB L L.length = some s ∧ s = cat (ins L L.length) ∧ (s.length : Int) = pos L L.length ∧ Ins (ins L L.length) := by
  unfold asmB at h
  split at h
  · rename_i hc
    obtain ⟨h1, h2, h3⟩ := itemsB_ins hc.1 L.length s (Nat.le_refl _) h
    exact ⟨hc.1, hc.2, h, h1, h2, fun x hx => ⟨h3 x hx, ins_nb hL hi _ (Nat.le_refl _) x hx⟩⟩
  · cases h
/-- an instruction as an item -/
def pl (x : XI) : It := ⟨x, 0, 0⟩
theorem getD_left {L M : List It} {k : Nat} (hk : k < L.length) : (L ++ M).getD k default = L.getD k default := by
  rw [List.getD_eq_getElem?_getD, List.getD_eq_getElem?_getD, List.getElem?_append_left hk]
theorem getD_right {L M : List It} (j : Nat) : (L ++ M).getD (L.length + j) default = M.getD j default := by
  rw [List.getD_eq_getElem?_getD, List.getD_eq_getElem?_getD, List.getElem?_append_right (by omega), Nat.add_sub_cancel_left]
theorem getD_pl (X : List XI) (j : Nat) : ((X.map pl).getD j default).lab = 0 ∧ ((X.map pl).getD j default).to = 0 := by
  rw [List.getD_eq_getElem?_getD, List.getElem?_map]
  cases X[j]? <;> exact ⟨rfl, rfl⟩
theorem pos_left {L M : List It} {n : Nat} (hn : n ≤ L.length) : pos (L ++ M) n = pos L n := by
  unfold pos
  rw [List.take_append_of_le_length hn]
theorem lk_left {L M : List It} {a : Int} : ∀ n, n ≤ L.length → lk (L ++ M) n a = lk L n a
  | 0, _ => rfl
  | n + 1, h => by
    unfold lk
    rw [lk_left n (by omega), getD_left (by omega), pos_left (by omega)]
theorem lk_right {L : List It} {X : List XI} {a : Int} : ∀ j, lk (L ++ X.map pl) (L.length + j) a = lk L L.length a
  | 0 => lk_left _ (Nat.le_refl _)
  | j + 1 => by
    rw [← Nat.add_assoc]
    conv => lhs; unfold lk
    rw [getD_right, (getD_pl X j).1, if_neg (by omega), lk_right j]
theorem nd_left {L M : List It} : ∀ n, n ≤ L.length → nd (L ++ M) n = nd L n
  | 0, _ => rfl
  | n + 1, h => by
    unfold nd
    rw [nd_left n (by omega), getD_left (by omega), lk_left _ (by omega)]
theorem nd_right {L : List It} {X : List XI} : ∀ j, nd (L ++ X.map pl) (L.length + j) = nd L L.length
  | 0 => nd_left _ (Nat.le_refl _)
  | j + 1 => by
    rw [← Nat.add_assoc]
    conv => lhs; unfold nd
    rw [getD_right, (getD_pl X j).1, nd_right j]
    simp
theorem item_left {L : List It} {X : List XI} {k : Nat} (hk : k < L.length) : itemB (L ++ X.map pl) k = itemB L k := by
  unfold itemB
  dsimp only
  rw [getD_left hk, pos_left (by omega), List.length_append, List.length_map, lk_right]
theorem item_right {L : List It} {X : List XI} {j : Nat} (hj : j < X.length) (hr : right X[j] = true) : itemB (L ++ X.map pl) (L.length + j) = some (enc X[j]) := by
  unfold itemB
  have e : ((X.map pl).getD j default) = pl X[j] := by
    rw [List.getD_eq_getElem?_getD, List.getElem?_map, List.getElem?_eq_getElem hj]; rfl
  rw [getD_right, e]
  show (if 0 < (0 : Int) then _ else if 0 < (0 : Int) then _ else if right X[j] = true then some (enc X[j]) else none) = _
  rw [if_neg (by decide), if_neg (by decide), if_pos hr]
theorem items_left {L : List It} {X : List XI} : ∀ n, n ≤ L.length → itemsB (L ++ X.map pl) n = itemsB L n
  | 0, _ => rfl
  | n + 1, h => by
    unfold itemsB
    rw [items_left n (by omega), item_left (by omega)]
theorem cat_take {X : List XI} {j : Nat} (hj : j < X.length) : cat (X.take (j + 1)) = cat (X.take j) ++ enc X[j] := by
  rw [List.take_succ_eq_append_getElem hj, cat_append]
  simp [cat]
theorem items_right {L : List It} {X : List XI} {s : List Int} (h : itemsB L L.length = some s) (hX : ∀ x ∈ X, right x = true) : ∀ j, j ≤ X.length → itemsB (L ++ X.map pl) (L.length + j) = some (s ++ cat (X.take j))
  | 0, _ => by rw [Nat.add_zero, items_left _ (Nat.le_refl _), h]; simp [cat]
  | j + 1, hj => by
    rw [← Nat.add_assoc, itemsB_step (items_right h hX j (by omega)) (item_right (by omega) (hX _ (List.getElem_mem _))), cat_take (by omega), List.append_assoc]
theorem okL_two {L : List It} {X : List XI} (h : okL L = true) (hX : ∀ x ∈ X, right x = true) : okL (L ++ X.map pl) = true := by
  unfold okL at h ⊢
  rw [List.all_append, h, Bool.true_and, List.all_map, List.all_eq_true]
  intro x hx
  have hr := hX x hx
  have ht : toOk (pl x) := by
    unfold toOk pl
    dsimp only
    by_cases hj : isJ x.op
    · exact .inl ⟨hj, .inl rfl⟩
    · exact .inr ⟨hj, rfl⟩
  show (lenI (pl x)).isSome = true
  unfold lenI
  rw [if_pos ht]
  show (if (0 : Int) = 0 then (if right x = true then some (enc x).length else none) else _).isSome = true
  rw [if_pos rfl, if_pos hr]
  rfl
/-- items behind items -/
theorem asm_twice {L : List It} {X : List XI} {s : List Int} (hL : L.length ≤ 1000) (hi : ∀ t ∈ L, NB t.x) (h : asmB L = some s) (hX : Ins X) : asmB (L ++ X.map pl) = some (s ++ cat X) := by
  obtain ⟨h1, h2, h3, -⟩ := asm_ins hL hi h
  have hr : ∀ x ∈ X, right x = true := fun x hx => (hX x hx).1
  unfold asmB
  rw [List.length_append, List.length_map, nd_right, items_right h3 hr X.length (Nat.le_refl _), List.take_length, if_pos ⟨okL_two h1 hr, h2⟩]
/-- where instructions begin in both -/
theorem starts_twice {X Y : List XI} (hX : Ins X) (hY : Ins Y) : starts (cat X) = some (offs 0 X) ∧ starts (cat Y) = some (offs 0 Y) ∧ starts (cat X ++ cat Y) = some (offs 0 X ++ (offs 0 Y).map (((cat X).length : Int) + ·)) := by
  refine ⟨starts_cat X hX, starts_cat Y hY, ?_⟩
  rw [← cat_append, starts_cat _ (hX.app hY), offs_append, ← offs_shift, Int.zero_add, Int.add_zero]
theorem num_app (a b : List Int) : strOfNums (a ++ b) = strOfNums a ++ strOfNums b := by
  apply ByteArray.ext
  simp [strOfNums]
/-- Starts, where its answer is known -/
theorem StartsR (l acc : List Int) (n : Nat) (hn : acc.length = n) (hb : ∀ b ∈ l, 0 ≤ b ∧ b < 256) (hl : l.length ≤ 100000) (hs : starts l = some acc) (hm : n ≤ 100000) (W : World) (ht : Tab W) :
    Calls Tryd.prog 30 #[.string (strOfNums l)] W fun e w' => ∃ (A : Option Addr) (cap : Nat), e = .returned (.tuple #[.slice A n cap, .int .i64 0]) ∧ ReadsInt w' .i64 A n acc ∧ Below W.heap.size W w' := by
  subst hn
  refine (Starts (strOfNums l) W ht (by rw [strsize hb]; omega)).mono fun e w' h => ?_
  unfold StartsAns at h
  rw [Go.Ob.bl_num l hb, hs] at h
  obtain ⟨⟨v, rfl, ho⟩, hb2⟩ := h
  obtain ⟨A, cap, rfl, hr⟩ := reads_of_own ho (by omega)
  exact ⟨A, cap, rfl, hr, hb2⟩
theorem ins_len (L : List It) : ∀ n, (ins L n).length ≤ n
  | 0 => by simp [ins]
  | n + 1 => by
    have := ins_len L n
    unfold ins
    split
    · omega
    · rw [List.length_append, List.length_singleton]; omega
end Go.Proofs.YtkfinaongajhmaaDoor.X
