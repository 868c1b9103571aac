/- value$2: one name and value more into an object. -/
import Derived.Test.YtphjfighamadgaaGreatDoorJPairX
namespace Go.Proofs.YtphjfighamadgaaGreatDoor
open Go.RowKit
open Go.Lib (hid)
set_option maxRecDepth 100000 in
set_option maxHeartbeats 2000000 in
theorem obj_one {w : World} {G R : Nat} {s : ByteArray} {d deep : Nat} (hV : ValC G R s d (deep + 1)) (hG : Ground G w) (hGR : G ≤ R) (hd : deep < 16) (hs : s.size ≤ 1000000000000) :
    OneC w R s (J.stepO (J.val d)) 48 #[.pointer (some ⟨w.heap.size, 0, none⟩), .pointer (some ⟨w.heap.size + 2, 0, none⟩), .pointer (some ⟨w.heap.size + 1, 0, none⟩)] (ObjInv w R deep) (VBad (w.heap.size + 2)) := by
  intro st q W hq hl1 hl2 hR hI
  have cP := pair_one hV hG hGR hd hs st q W hq hl1 hl2 hR hI
  have c0 := cell_of_one hI.1
  have c1 := cell_of_one hI.2.1
  clear hR hI hV hl1 hl2
  go_enter Tryz.func48, Tryz.ntmps48
  go_wp2_with fail
  refine cP.mono ?_
  intro e w2 hen
  clear cP
  rcases hen with ⟨p', r, hx, rfl, hr, hi⟩ | ⟨n, er, q', hx, hq', rfl, hr, hb⟩
  · have H := hid (show _ ∧ _ ∧ _ from ⟨hx, hr, hi⟩)
    clear hx hr hi
    go_wp2_with fail
    go_ret
    exact Or.inl ⟨p', r, H.out.1, rfl, H.out.2.1, H.out.2.2⟩
  · have H := hid (show _ ∧ _ ∧ _ from ⟨hx, hr, hb⟩)
    clear hx hr hb
    go_wp2_with fail
    go_ret
    exact Or.inr ⟨n, er, q', H.out.1, hq', rfl, H.out.2.1, H.out.2.2⟩
end Go.Proofs.YtphjfighamadgaaGreatDoor
