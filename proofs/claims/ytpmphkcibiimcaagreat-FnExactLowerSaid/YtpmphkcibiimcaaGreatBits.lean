/-
  Bits, shifts and conversions of numbers.
-/
import Derived.Test.YtpmphkcibiimcaaGreatTypes
namespace Go.Proofs.YtpmphkcibiimcaaGreat
open Go.RowKit
section
variable {P : Program} {n : Nat} {w0 : World} {fr : Fr} {H : List Ch} {x y : Operand} {t t' : TypeId} {k yk : IntKind} {p q : Int}
theorem rv_and (hx : opv fr x = some (.int k p)) (hy : opv fr y = some (.int k q)) : RunsV P n w0 fr H (.binOp .and t x y t') (.int k (bits .and k p q)) := fun a w hr _ _ _ _ _ _ => by
  simp [execOp, hr.opv hx, hr.opv hy, eqGuard_and, binOp_and, intBits_and]
theorem rv_xor (hx : opv fr x = some (.int k p)) (hy : opv fr y = some (.int k q)) : RunsV P n w0 fr H (.binOp .xor t x y t') (.int k (bits .xor k p q)) := fun a w hr _ _ _ _ _ _ => by
  simp [execOp, hr.opv hx, hr.opv hy, eqGuard_xor, binOp_xor, intBits_xor]
theorem rv_shr (hx : opv fr x = some (.int k p)) (hy : opv fr y = some (.int yk q)) (h0 : 0 ≤ q) : RunsV P n w0 fr H (.binOp .shr t x y t') (.int k (p.fdiv (2 ^ (min q.toNat k.bits)))) := fun a w hr _ _ _ _ _ _ => by
  have : ¬ q < 0 := by omega
  simp [execOp, hr.opv hx, hr.opv hy, eqGuard_shr, binOp_shr, Op.shift, this]
theorem rv_conv {src dst : TypeId} {k2 : IntKind} [hs : TyInt P src k] [hd : TyInt P dst k2] (hx : opv fr x = some (.int k p)) : RunsV P n w0 fr H (.convert src dst x) (.int k2 (k2.wrap p)) := fun a w hr _ _ _ _ _ _ => by
  have h := run_convert_int (P := P) w src dst k p (by rw [hs.h]; rfl) (by rw [hd.h, hd.g])
  rw [hd.g] at h
  simp [execOp, hr.opv hx, h]
end
/-- What is masked with 255 is a byte. -/
theorem and255 (z : Int) : 0 ≤ bits .and .i64 z 255 ∧ bits .and .i64 z 255 ≤ 255 := by
  have h : (BitVec.ofInt 64 z &&& BitVec.ofInt 64 255).toNat ≤ 255 := by
    rw [BitVec.toNat_and]; exact Nat.le_trans Nat.and_le_right (by decide)
  have e : bits .and .i64 z 255 = IntKind.i64.wrap ((BitVec.ofInt 64 z &&& BitVec.ofInt 64 255).toNat : Int) := rfl
  rw [e, wrap64_id (by omega) (by omega)]; omega
theorem get_lt {α : Type} {l : List α} {k : Nat} {x : α} (h : l[k]? = some x) : k < l.length := by
  rcases Nat.lt_or_ge k l.length with h1 | h1
  · exact h1
  · rw [List.getElem?_eq_none h1] at h; cases h
theorem pick_int {e : List Value} (h : (match e with | [.int .i64 _] => true | _ => false) = true) : ∃ z, e = [.int .i64 z] := by
  split at h
  · exact ⟨_, rfl⟩
  · cases h
end Go.Proofs.YtpmphkcibiimcaaGreat
