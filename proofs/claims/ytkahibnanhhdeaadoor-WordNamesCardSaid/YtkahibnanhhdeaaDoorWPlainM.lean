/- Plain: the closed law's examples. No program in sight. Written by hand for this claim. -/
import Derived.Test.YtkahibnanhhdeaaDoorWPlainO
namespace Go.Proofs.YtkahibnanhhdeaaDoor
namespace W
open Go.Lib (itoa decodeL validD)

theorem no_prefix (r : List UInt8) (h : ∀ y : Fin 256, (byteQ (UInt8.ofNat y.val)).isPrefixOf r = false) (c : UInt8) : ¬ ∃ x, r = byteQ c ++ x := by
  rintro ⟨x, e⟩
  have := h ⟨c.toNat, c.toNat_lt⟩
  simp only [UInt8.ofNat_toNat] at this
  have hp : (byteQ c).isPrefixOf r = true := by
    rw [List.isPrefixOf_iff_prefix]; exact ⟨x, e.symm⟩
  rw [hp] at this; cases this
/-- what no text is quoted as -/
theorem unq_byte (r : List UInt8) (hr : r.head? ≠ some 34) (h : ∀ y : Fin 256, (byteQ (UInt8.ofNat y.val)).isPrefixOf r = false) : (unqL (34 :: r)).2 = false := by
  rw [unqL_no (l := 34 :: r) (no_byte (o := []) (r := r) rfl hr (no_prefix r h))]
theorem unq_mark (o r : List UInt8) (hr : r = [] ∨ r.head? = some 34) (hn : r ≠ [34]) : (unqL (34 :: (quoteIn o ++ r))).2 = false := by
  rw [unqL_no (at_mark rfl hr hn)]
theorem unq_head (a : UInt8) (r : List UInt8) (h : a ≠ 34) : (unqL (a :: r)).2 = false := by
  rw [unqL_no (fun t ht => h (List.cons.inj ht).1.symm)]
/-- the texts of the closed law -/
def badQ : List ByteArray := [⟨#[34, 92, 120, 48, 97, 34]⟩, ⟨#[34, 97]⟩, ⟨#[97]⟩, ⟨#[34, 92, 113, 34]⟩, ⟨#[34, 92, 120, 52, 34]⟩, ⟨#[34, 92, 120, 52, 49, 34]⟩, ⟨#[34, 92, 120, 70, 70, 34]⟩, ⟨#[34, 34, 34]⟩, ⟨#[34]⟩, ⟨#[34, 92, 34]⟩, ⟨#[34, 10, 34]⟩]
theorem badQ_all : ∀ s ∈ badQ, (unqL s.data.toList).2 = false := by
  intro s hs
  simp only [badQ, List.mem_cons, List.not_mem_nil, or_false] at hs
  rcases hs with rfl | rfl | rfl | rfl | rfl | rfl | rfl | rfl | rfl | rfl | rfl
  · exact unq_byte [92, 120, 48, 97, 34] (by decide) (by decide +kernel)
  · exact unq_mark [97] [] (Or.inl rfl) (by decide)
  · exact unq_head 97 [] (by decide)
  · exact unq_byte [92, 113, 34] (by decide) (by decide +kernel)
  · exact unq_byte [92, 120, 52, 34] (by decide) (by decide +kernel)
  · exact unq_byte [92, 120, 52, 49, 34] (by decide) (by decide +kernel)
  · exact unq_byte [92, 120, 70, 70, 34] (by decide) (by decide +kernel)
  · exact unq_mark [] [34, 34] (Or.inr rfl) (by decide)
  · exact unq_mark [] [] (Or.inl rfl) (by decide)
  · exact unq_mark [34] [] (Or.inl rfl) (by decide)
  · exact unq_byte [10, 34] (by decide) (by decide +kernel)
def badU : List ByteArray := [⟨#[192, 128]⟩, ⟨#[237, 160, 128]⟩, ⟨#[233]⟩, ⟨#[244, 144, 128, 128]⟩, ⟨#[128]⟩, ⟨#[97, 255]⟩]
theorem badU_all : ∀ s ∈ badU, validD s.data.toList = false := by
  have : ∀ y : Fin 6, validD (badU.getD y.val ⟨#[]⟩).data.toList = false := by decide +kernel
  intro s hs
  obtain ⟨i, hi, rfl⟩ := List.getElem_of_mem hs
  have h := this ⟨i, hi⟩
  rwa [List.getD_eq_getElem?_getD, List.getElem?_eq_getElem hi] at h
def badC : List Int := [-1, 55296, 57343, 1114112, 1099511627776]
theorem badC_all : ∀ c ∈ badC, charOk c = false := by decide +kernel
theorem itoa_0 : itoa 0 = [48] := by
  unfold Go.Lib.itoa
  rw [if_neg (by decide)]
  show Go.Lib.decDigits 0 = _
  rw [Go.Lib.decDigits, dif_pos (by decide)]; rfl
theorem itoa_1 : itoa 1 = [49] := by
  unfold Go.Lib.itoa
  rw [if_neg (by decide)]
  show Go.Lib.decDigits 1 = _
  rw [Go.Lib.decDigits, dif_pos (by decide)]; rfl
theorem parse_none (l : List UInt8) (h : libP l = none) : (parseW l).2 = false := by unfold parseW; rw [h]; rfl
theorem parse_other (l : List UInt8) (n : Int) (h : libP l = some n) (hn : itoa n ≠ l) : (parseW l).2 = false := by
  unfold parseW; rw [h]
  show (if itoa n = l then _ else _ : Int × Bool).2 = _
  rw [if_neg hn]
def badN : List ByteArray := [⟨#[57, 50, 50, 51, 51, 55, 50, 48, 51, 54, 56, 53, 52, 55, 55, 53, 56, 48, 56]⟩, ⟨#[45, 57, 50, 50, 51, 51, 55, 50, 48, 51, 54, 56, 53, 52, 55, 55, 53, 56, 48, 57]⟩, ⟨#[45, 48]⟩, ⟨#[48, 49]⟩, ⟨#[43, 49]⟩, ⟨#[]⟩, ⟨#[45]⟩, ⟨#[49, 32]⟩, ⟨#[48, 48]⟩]
theorem badN_all : ∀ s ∈ badN, (parseW s.data.toList).2 = false := by
  intro s hs
  simp only [badN, List.mem_cons, List.not_mem_nil, or_false] at hs
  rcases hs with rfl | rfl | rfl | rfl | rfl | rfl | rfl | rfl | rfl
  · exact parse_none _ (by decide +kernel)
  · exact parse_none _ (by decide +kernel)
  · exact parse_other _ 0 (by decide +kernel) (by rw [itoa_0]; decide)
  · exact parse_other _ 1 (by decide +kernel) (by rw [itoa_1]; decide)
  · exact parse_other _ 1 (by decide +kernel) (by rw [itoa_1]; decide)
  · exact parse_none _ (by decide +kernel)
  · exact parse_none _ (by decide +kernel)
  · exact parse_none _ (by decide +kernel)
  · exact parse_other _ 0 (by decide +kernel) (by rw [itoa_0]; decide)
theorem dec_step (u : Nat) (l : List UInt8) (h : 10 ≤ u) (e : Go.Lib.decDigits (u / 10) = l) : Go.Lib.decDigits u = l ++ [UInt8.ofNat (48 + u % 10)] := by
  rw [Go.Lib.decDigits, dif_neg (by omega), e]
theorem itoa_least : itoa (-9223372036854775808) = [45, 57, 50, 50, 51, 51, 55, 50, 48, 51, 54, 56, 53, 52, 55, 55, 53, 56, 48, 56] := by
  have h0 : Go.Lib.decDigits 9 = [57] := by rw [Go.Lib.decDigits, dif_pos (by decide)]; rfl
  have h := dec_step 9223372036854775808 _ (by decide) (dec_step 922337203685477580 _ (by decide) (dec_step 92233720368547758 _ (by decide) (dec_step 9223372036854775 _ (by decide) (dec_step 922337203685477 _ (by decide) (dec_step 92233720368547 _ (by decide) (dec_step 9223372036854 _ (by decide) (dec_step 922337203685 _ (by decide) (dec_step 92233720368 _ (by decide) (dec_step 9223372036 _ (by decide) (dec_step 922337203 _ (by decide) (dec_step 92233720 _ (by decide) (dec_step 9223372 _ (by decide) (dec_step 922337 _ (by decide) (dec_step 92233 _ (by decide) (dec_step 9223 _ (by decide) (dec_step 922 _ (by decide) (dec_step 92 _ (by decide) h0)))))))))))))))))
  unfold Go.Lib.itoa
  rw [if_pos (by decide), show (-9223372036854775808 : Int).natAbs = 9223372036854775808 from rfl, h]
  rfl
theorem itoa_most : itoa 9223372036854775807 = [57, 50, 50, 51, 51, 55, 50, 48, 51, 54, 56, 53, 52, 55, 55, 53, 56, 48, 55] := by
  have h0 : Go.Lib.decDigits 9 = [57] := by rw [Go.Lib.decDigits, dif_pos (by decide)]; rfl
  have h := dec_step 9223372036854775807 _ (by decide) (dec_step 922337203685477580 _ (by decide) (dec_step 92233720368547758 _ (by decide) (dec_step 9223372036854775 _ (by decide) (dec_step 922337203685477 _ (by decide) (dec_step 92233720368547 _ (by decide) (dec_step 9223372036854 _ (by decide) (dec_step 922337203685 _ (by decide) (dec_step 92233720368 _ (by decide) (dec_step 9223372036 _ (by decide) (dec_step 922337203 _ (by decide) (dec_step 92233720 _ (by decide) (dec_step 9223372 _ (by decide) (dec_step 922337 _ (by decide) (dec_step 92233 _ (by decide) (dec_step 9223 _ (by decide) (dec_step 922 _ (by decide) (dec_step 92 _ (by decide) h0)))))))))))))))))
  unfold Go.Lib.itoa
  rw [if_neg (by decide), show (9223372036854775807 : Int).toNat = 9223372036854775807 from rfl, h]
  rfl
end W
end Go.Proofs.YtkahibnanhhdeaaDoor
