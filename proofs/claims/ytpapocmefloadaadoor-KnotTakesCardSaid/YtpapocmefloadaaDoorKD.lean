/- knot's row: the pure part. -/
import Derived.Test.YtpapocmefloadaaDoorKC
import Derived.Lib.IndexBytes
import Derived.Lib.IndexMore
namespace Go.Proofs.YtpapocmefloadaaDoor.K
open Go.RowKit Go.Proofs.YtpapocmefloadaaDoorW.PrintWords Go.Proofs.YtpapocmefloadaaDoorW.PrintLast Go.Proofs.YtpapocmefloadaaDoorW.PrintMore Go.Proofs.YtpapocmefloadaaDoor.MKn
set_option linter.unusedVariables false
set_option linter.unusedSimpArgs false
/-- Bytes that begin with a row. -/
def isRow (xs p rest : List Int) : Prop := xs = rowL p ++ rest ∧ p.length ≤ 9999
theorem itoaI_nat (n : Nat) : itoaI (n : Int) = I (Lib.decDigits n) := by rw [itoaI_I, Lib.itoa, if_neg (by omega)]; rfl
theorem itoaI_dig (n : Nat) : ∀ x ∈ itoaI (n : Int), 48 ≤ x ∧ x ≤ 57 := by
  intro x hx
  rw [itoaI_nat] at hx
  obtain ⟨b, hb, rfl⟩ := List.mem_map.1 hx
  have h := List.all_eq_true.1 (dd_dig n) b hb
  have := (isDig_iff b).1 h
  omega
theorem itoaI_len4 (n : Nat) (h : n ≤ 9999) : (itoaI (n : Int)).length ≤ 4 := by
  rw [itoaI_nat]
  have := dd_le 3 n (by omega)
  simpa [I] using this
theorem itoaI_len1 (n : Nat) : 1 ≤ (itoaI (n : Int)).length := by
  rw [itoaI_nat]
  have := dd_pos n
  simpa [I] using this
theorem itoaI_injN {a b : Nat} (h : itoaI (a : Int) = itoaI (b : Int)) : a = b := by
  have := congrArg Lib.bytesOf h
  rw [itoaI_I, itoaI_I, U_I, U_I] at this
  have := itoa_inj this
  omega
/-- Where the first 58 stands. -/
theorem idx_at (W B : List Int) (hW : ∀ x ∈ W, 48 ≤ x ∧ x ≤ 57) : Lib.index (Lib.bytesOf (W ++ 58 :: B)) (Lib.bytesOf [58]) = (W.length : Int) := by
  show Lib.index (Lib.bytesOf (W ++ 58 :: B)) [58] = _
  rw [Lib.index_one]
  induction W with
  | nil => rfl
  | cons x W ih =>
    have hx := hW x List.mem_cons_self
    have ih := ih (fun y hy => hW y (List.mem_cons_of_mem _ hy))
    have hne : (UInt8.ofNat x.toNat == 58) = false := by
      rw [beq_eq_false_iff_ne]
      intro e
      have := congrArg UInt8.toNat e
      rw [UInt8.toNat_ofNat'] at this
      have h58 : (58 : UInt8).toNat = 58 := rfl
      omega
    show Lib.indexByte (UInt8.ofNat x.toNat :: Lib.bytesOf (W ++ 58 :: B)) 58 = _
    rw [Lib.indexByte, hne, ih, List.length_cons]
    simp
theorem idx_get {xs : List Int} (hR : R xs) {i : Nat} (h : Lib.index (Lib.bytesOf xs) (Lib.bytesOf [58]) = (i : Int)) : i < xs.length ∧ xs = xs.take i ++ 58 :: xs.drop (i + 1) := by
  have hl : (Lib.bytesOf xs).length = xs.length := by simp [Lib.bytesOf]
  rcases Lib.index_spec (Lib.bytesOf xs) (Lib.bytesOf [58]) with ⟨h1, _⟩ | ⟨j, h1, h2, h3, h4⟩
  · omega
  · obtain rfl : i = j := by omega
    have hr := Lib.index_room (Lib.bytesOf xs) (Lib.bytesOf [58]) (by omega)
    have h58 : (Lib.bytesOf [58]).length = 1 := rfl
    have hi : i < xs.length := by omega
    refine ⟨hi, ?_⟩
    unfold Lib.occAt at h3
    have hd : xs.drop i = xs[i] :: xs.drop (i + 1) := List.drop_eq_getElem_cons hi
    have hd2 : (Lib.bytesOf xs).drop i = Lib.bytesOf (xs.drop i) := by unfold Lib.bytesOf; rw [List.map_drop]
    rw [hd2, hd] at h3
    have h5 : (58 : UInt8) = UInt8.ofNat (xs[i]).toNat := by
      change (((58 : UInt8) == UInt8.ofNat (xs[i]).toNat) && List.isPrefixOf [] _) = true at h3
      rw [Bool.and_eq_true, beq_iff_eq] at h3
      exact h3.1
    have hx := hR xs[i] (List.getElem_mem hi)
    have h6 : xs[i] = 58 := by
      have := congrArg UInt8.toNat h5
      rw [UInt8.toNat_ofNat'] at this
      have h58 : (58 : UInt8).toNat = 58 := rfl
      omega
    conv => lhs; rw [← List.take_append_drop i xs, hd, h6]
theorem take_mid (W T : List Int) (m : Nat) (h : W.length + 1 ≤ m) : (W ++ 58 :: T).take m = W ++ 58 :: T.take (m - W.length - 1) := by
  obtain ⟨k, rfl⟩ : ∃ k, m = W.length + (k + 1) := ⟨m - W.length - 1, by omega⟩
  rw [List.take_length_add_append, show W.length + (k + 1) - W.length - 1 = k by omega]
  rfl
/-- A row's head, if there is a row. -/
theorem row_head {xs p rest : List Int} (h : isRow xs p rest) : Lib.index (Lib.bytesOf (xs.take (min xs.length 5))) (Lib.bytesOf [58]) = ((itoaI p.length).length : Int) ∧ xs.take (itoaI p.length).length = itoaI p.length ∧ xs.drop ((itoaI p.length).length + 1) = p ++ 44 :: rest ∧ (itoaI p.length).length < xs.length := by
  obtain ⟨h1, h2⟩ := h
  have h4 := itoaI_len4 p.length h2
  have e : xs = itoaI p.length ++ 58 :: (p ++ 44 :: rest) := by rw [h1]; simp [rowL]
  have hl : xs.length = (itoaI p.length).length + 1 + (p.length + 1 + rest.length) := by rw [e]; simp; omega
  refine ⟨?_, ?_, ?_, by omega⟩
  · have : xs.take (min xs.length 5) = itoaI p.length ++ 58 :: ((p ++ 44 :: rest).take (min xs.length 5 - (itoaI p.length).length - 1)) := by
      have hm : (itoaI p.length).length + 1 ≤ min xs.length 5 := by omega
      generalize min xs.length 5 = m at hm
      rw [e]
      exact take_mid _ _ m hm
    rw [this]
    exact idx_at _ _ (itoaI_dig p.length)
  · rw [e]; exact List.take_left' rfl
  · rw [e, ← List.drop_drop]
    rw [List.drop_left' rfl]
    rfl
end Go.Proofs.YtpapocmefloadaaDoor.K
