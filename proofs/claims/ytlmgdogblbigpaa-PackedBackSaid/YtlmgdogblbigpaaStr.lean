/-
  Strings as lists of octets: how the walk writes them.
-/
import Derived.Test.YtlmgdogblbigpaaBase
namespace Go.Proofs.Ytlmgdogblbigpaa
open Go.RowKit

/-- The string of these octets. -/
def bs (l : List UInt8) : ByteArray := ⟨l.toArray⟩
theorem bs_of (s : ByteArray) : s = bs s.data.toList := by cases s; simp [bs]
@[go_sem, simp] theorem bs_size (l : List UInt8) : (bs l).size = l.length := by simp [bs, ByteArray.size]
theorem bs_data (l : List UInt8) : (bs l).data.toList = l := by simp [bs]
theorem bs_inj {a b : List UInt8} : bs a = bs b ↔ a = b := ⟨fun h => by simpa [bs] using h, fun h => by rw [h]⟩
@[go_sem] theorem bs_app (a b : List UInt8) : bs a ++ bs b = bs (a ++ b) := by unfold bs; rw [ByteArray.mk_append_mk]
@[go_sem] theorem bs_app_lit (a b : List UInt8) : bs a ++ ⟨b.toArray⟩ = bs (a ++ b) := bs_app a b
@[go_sem] theorem bs_lit_app (a b : List UInt8) : (⟨a.toArray⟩ : ByteArray) ++ bs b = bs (a ++ b) := bs_app a b
theorem bs_lit (l : List UInt8) : (⟨l.toArray⟩ : ByteArray) = bs l := rfl
@[go_sem] theorem bs_extract (l : List UInt8) (i j : Nat) : (bs l).extract i j = bs ((l.take j).drop i) := by
  unfold bs
  rw [ByteArray.extract_mk, List.drop_take]
@[go_sem] theorem bs_get (l : List UInt8) (i : Nat) (h : i < (bs l).size) : (bs l)[i] = l[i]'(by simpa using h) := rfl
theorem toList_mk (l : List UInt8) : ByteArray.toList ⟨l.toArray⟩ = l := by rw [ByteArray.toList_eq]
@[go_sem] theorem bs_toList (l : List UInt8) : (bs l).toList = l := toList_mk l

/-- The cells of block g, from off on, are these octets. -/
def Byt (w : World) (g off : Nat) (l : List UInt8) : Prop := ∀ j (hj : j < l.length), w.cell? ⟨g, off + j, none⟩ = some (.int .u8 (l[j].toNat : Int))
theorem Byt.below {w w' : World} {B g off : Nat} {l : List UInt8} (h : Byt w g off l) (hb : Below B w w') (hg : g < B) : Byt w' g off l := fun j hj => (hb.cell hg).trans (h j hj)
theorem Byt.at_ {w : World} {g off : Nat} {l : List UInt8} (h : Byt w g off l) (j : Nat) (hj : j < l.length) : w.cell? ⟨g, off + j, none⟩ = some (.int .u8 (l[j].toNat : Int)) := h j hj

/-- '[]byte(s)'. -/
theorem wpList_tobytes {P : Program} (w : World) {ops : Array Oper} {rest : List Oper} {o : Oper} {a : Act} {Q : Exit → Act → World → Prop} (hgd : o.guard = none) (x : Operand) (src dst e : TypeId)
    (ho : o.op = .convert src dst x) (hs : P.underlying src = some .string) (hd : P.underlying dst = some (.slice e)) (he : P.underlying e = some (.int .u8)) (l : List UInt8) (hx : a.eval x = .string (bs l))
    (h : ∀ cap w', l.length ≤ cap → Byt w' w.heap.size 0 l → Below w.heap.size w w' → w'.heap.size = w.heap.size + 1 → wpList P ops Q rest (a.put o.dst (.slice (some ⟨w.heap.size, 0, none⟩) l.length cap)) w') :
    wpList P ops Q (o :: rest) a w := by
  refine wpList_plain hgd fun K hK => ?_
  have hr := run_bytes_of_string (P := P) w src dst e (bs l) hs hd he
  rw [bs_size] at hr
  generalize hcap : grownCap w l.length 0 e = cap at hr
  have hle : l.length ≤ cap := by
    rw [← hcap]; unfold grownCap
    simp [Question.cut]
  unfold Oper.wp
  simp [execOp, ho, hx, hr, Result.andThen]
  refine hK _ _ (h cap _ hle ?_ ?_ ?_)
  · intro j hj
    have e1 := World.cell?_alloc_mark w.drew (bytesRow (bs l) cap) e ((bytesRow (bs l) cap).size, (bytesRow (bs l) cap).size + 1) (0 + j)
    rw [show w.drew.heap.size = w.heap.size from rfl] at e1
    rw [e1, Nat.zero_add, bytesRow_at (bs l) cap j (by simpa [bs] using hj)]
    simp [bs]
  · exact ((Below.refl _ _).drew).alloc (Nat.le_refl _) _
  · simp
end Go.Proofs.Ytlmgdogblbigpaa
