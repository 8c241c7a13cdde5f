/- The reference's moved as one contract, and its Parse. -/
import Derived.Test.YtlpcahkchmlghaaDoorIn
namespace Go.Proofs.YtlpcahkchmlghaaDoor
open Go.RowKit

def mvR : List (List UInt8) → (Int × Int × Int × Int × List UInt8) × Bool
  | [x0, x1, x2, x3, x4] => mvR5 x0 x1 x2 x3 x4
  | x0 :: x1 :: x2 :: r => mvRn (r.length + 3) x0 x1 x2
  | _ => ((0, 0, 0, 0, []), false)
theorem mvR_n (n : Nat) (x0 x1 x2 : List UInt8) (r : List (List UInt8)) (h : (x0 :: x1 :: x2 :: r).length = n) (h5 : n ≠ 5) : mvR (x0 :: x1 :: x2 :: r) = mvRn n x0 x1 x2 := by
  subst h
  match r, h5 with
  | [], _ => rfl
  | [_], _ => rfl
  | [a, b], h => simp at h
  | _ :: _ :: _ :: _, _ => rfl

/-- A list of strings in memory. -/
def StrsAt (w : World) (b o : Nat) (ws : List (List UInt8)) : Prop := ∀ j (h : j < ws.length), w.cell? ⟨b, o + j, none⟩ = some (.string ⟨ws[j].toArray⟩)
theorem movedR (b o cap : Nat) (w : World) (hE : Env w) (hb0 : b < w.heap.size) (ws : List (List UInt8)) (h3 : 3 ≤ ws.length) (hcap : ws.length ≤ cap) (hc63 : cap ≤ 9223372036854775807) (hL : ∀ x ∈ ws, x.length ≤ 262144) (hq : StrsAt w b o ws) :
    Calls Tryd.prog 37 #[.slice (some ⟨b, o, none⟩) ws.length cap] w fun e w' => e = .returned (mrV (mvR ws)) ∧ Below w.heap.size w w' := by
  by_cases h5 : ws.length = 5
  · obtain ⟨x0, x1, x2, x3, x4, rfl⟩ : ∃ x0 x1 x2 x3 x4, ws = [x0, x1, x2, x3, x4] := by
      match ws, h5 with
      | [x0, x1, x2, x3, x4], _ => exact ⟨x0, x1, x2, x3, x4, rfl⟩
    have q0 := hq 0 (by simp); have q1 := hq 1 (by simp); have q2 := hq 2 (by simp); have q3 := hq 3 (by simp); have q4 := hq 4 (by simp)
    have l0 := hL x0 (by simp); have l1 := hL x1 (by simp); have l2 := hL x2 (by simp); have l3 := hL x3 (by simp); have l4 := hL x4 (by simp)
    have hc : 5 ≤ cap := by simpa using hcap
    show Calls _ _ #[.slice (some ⟨b, o, none⟩) 5 cap] w fun e w' => e = .returned (mrV (mvR5 x0 x1 x2 x3 x4)) ∧ Below w.heap.size w w'
    cases e3 : (x3 == [44]) with
    | true =>
      cases hp : placeB x0 x1 x2 with
      | true =>
        obtain ⟨g, gb, hg⟩ : ∃ g gb, givenP x4 = (g, gb) := ⟨_, _, rfl⟩
        cases gb with
        | true => exact mrA1t b o cap w hE hb0 hc x0 x1 x2 x3 x4 l0 l1 l2 l3 l4 q0 q1 q2 q3 q4 e3 hp g hg
        | false =>
          cases hr : regOf x4 with
          | some k => exact mrA2ty b o cap w hE hb0 hc x0 x1 x2 x3 x4 l0 l1 l2 l3 l4 q0 q1 q2 q3 q4 e3 hp g hg k hr
          | none => exact mrA2tn b o cap w hE hb0 hc x0 x1 x2 x3 x4 l0 l1 l2 l3 l4 q0 q1 q2 q3 q4 e3 hp g hg hr
      | false =>
        obtain ⟨g, gb, hg⟩ : ∃ g gb, givenP x4 = (g, gb) := ⟨_, _, rfl⟩
        cases gb with
        | true => exact mrA1f b o cap w hE hb0 hc x0 x1 x2 x3 x4 l0 l1 l2 l3 l4 q0 q1 q2 q3 q4 e3 hp g hg
        | false =>
          cases hr : regOf x4 with
          | some k => exact mrA2fy b o cap w hE hb0 hc x0 x1 x2 x3 x4 l0 l1 l2 l3 l4 q0 q1 q2 q3 q4 e3 hp g hg k hr
          | none => exact mrA2fn b o cap w hE hb0 hc x0 x1 x2 x3 x4 l0 l1 l2 l3 l4 q0 q1 q2 q3 q4 e3 hp g hg hr
    | false =>
      cases e1 : (x1 == [44]) with
      | false => exact mrB0 b o cap w hE hb0 hc x0 x1 x2 x3 x4 l0 l1 l2 l3 l4 q0 q1 q2 q3 q4 e3 e1
      | true =>
        cases hp : placeB x2 x3 x4 with
        | true =>
          cases hr : regOf x0 with
          | some k => exact mrB1yt b o cap w hE hb0 hc x0 x1 x2 x3 x4 l0 l1 l2 l3 l4 q0 q1 q2 q3 q4 e3 e1 hp k hr
          | none => exact mrB1nt b o cap w hE hb0 hc x0 x1 x2 x3 x4 l0 l1 l2 l3 l4 q0 q1 q2 q3 q4 e3 e1 hp hr
        | false =>
          cases hr : regOf x0 with
          | some k => exact mrB1yf b o cap w hE hb0 hc x0 x1 x2 x3 x4 l0 l1 l2 l3 l4 q0 q1 q2 q3 q4 e3 e1 hp k hr
          | none => exact mrB1nf b o cap w hE hb0 hc x0 x1 x2 x3 x4 l0 l1 l2 l3 l4 q0 q1 q2 q3 q4 e3 e1 hp hr
  · obtain ⟨x0, x1, x2, r, rfl⟩ : ∃ x0 x1 x2 r, ws = x0 :: x1 :: x2 :: r := by
      match ws, h3 with
      | x0 :: x1 :: x2 :: r, _ => exact ⟨x0, x1, x2, r, rfl⟩
    have q0 := hq 0 (by simp); have q1 := hq 1 (by simp); have q2 := hq 2 (by simp)
    have l0 := hL x0 (by simp); have l1 := hL x1 (by simp); have l2 := hL x2 (by simp)
    rw [mvR_n _ x0 x1 x2 r rfl h5]
    obtain ⟨n, hn⟩ : ∃ n, (x0 :: x1 :: x2 :: r).length = n := ⟨_, rfl⟩
    rw [hn] at h3 hcap h5 ⊢
    cases e1 : (x1 == [44]) with
    | false => exact mrN0 b o cap w hE hb0 n h3 h5 hcap hc63 x0 x1 x2 l0 l1 l2 q0 q1 q2 e1
    | true =>
      obtain ⟨g, gb, hg⟩ : ∃ g gb, givenP x2 = (g, gb) := ⟨_, _, rfl⟩
      cases h3b : (n == 3) with
      | true =>
        cases gb with
        | true =>
          cases hr : regOf x0 with
          | some k => exact mrN1ytt b o cap w hE hb0 n h3 h5 hcap hc63 x0 x1 x2 l0 l1 l2 q0 q1 q2 e1 h3b g hg k hr
          | none => exact mrN1ntt b o cap w hE hb0 n h3 h5 hcap hc63 x0 x1 x2 l0 l1 l2 q0 q1 q2 e1 h3b g hg hr
        | false =>
          cases hr : regOf x0 with
          | some k => exact mrN1ytf b o cap w hE hb0 n h3 h5 hcap hc63 x0 x1 x2 l0 l1 l2 q0 q1 q2 e1 h3b g hg k hr
          | none => exact mrN1ntf b o cap w hE hb0 n h3 h5 hcap hc63 x0 x1 x2 l0 l1 l2 q0 q1 q2 e1 h3b g hg hr
      | false =>
        cases gb with
        | true =>
          cases hr : regOf x0 with
          | some k => exact mrN1yft b o cap w hE hb0 n h3 h5 hcap hc63 x0 x1 x2 l0 l1 l2 q0 q1 q2 e1 h3b g hg k hr
          | none => exact mrN1nft b o cap w hE hb0 n h3 h5 hcap hc63 x0 x1 x2 l0 l1 l2 q0 q1 q2 e1 h3b g hg hr
        | false =>
          cases hr : regOf x0 with
          | some k => exact mrN1yff b o cap w hE hb0 n h3 h5 hcap hc63 x0 x1 x2 l0 l1 l2 q0 q1 q2 e1 h3b g hg k hr
          | none => exact mrN1nff b o cap w hE hb0 n h3 h5 hcap hc63 x0 x1 x2 l0 l1 l2 q0 q1 q2 e1 h3b g hg hr
end Go.Proofs.YtlpcahkchmlghaaDoor
