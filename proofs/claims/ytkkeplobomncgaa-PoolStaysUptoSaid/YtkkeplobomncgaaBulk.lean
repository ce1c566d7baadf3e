/- What the bound of an '..UptoSaid' gives: the length of a slice, the size of a string. -/
import Derived.Test.YtkkeplobomncgaaRows
set_option linter.all false
namespace Go.Proofs.Ytkkeplobomncgaa.bulk

theorem pos {H : Type} (d : DataW H) : 0 < Rows.uptoBulk d := by
  cases d with
  | lit l => cases l <;> simp [Rows.uptoBulk]
  | _ => simp [Rows.uptoBulk]

theorem len_le {H : Type} : ∀ l : List (DataW H), l.length ≤ Rows.uptoBulkAll l
  | [] => by simp
  | x :: r => by
    have h1 := pos x
    have h2 := len_le r
    simp only [Rows.uptoBulkAll, List.length_cons]
    omega

theorem mem_le {H : Type} {d : DataW H} : ∀ {l : List (DataW H)}, d ∈ l → Rows.uptoBulk d ≤ Rows.uptoBulkAll l
  | x :: r, h => by
    simp only [Rows.uptoBulkAll]
    rcases List.mem_cons.1 h with rfl | h
    · omega
    · have := mem_le h
      omega

/-- A slice among the arguments has so many elements at most. -/
theorem slice_le {H : Type} {l : List (DataW H)} {es sp : List (DataW H)} (hk : Rows.uptoSmall H l = true) (h : .slice es sp ∈ l) : es.length + sp.length ≤ 1048576 := by
  have h0 : Rows.uptoBulkAll l ≤ 1048576 := of_decide_eq_true hk
  have h1 := mem_le h
  have h2 := len_le es
  have h3 := len_le sp
  simp only [Rows.uptoBulk] at h1
  omega
/-- A string among the arguments has so many bytes at most. -/
theorem string_le {H : Type} {l : List (DataW H)} {bs : List UInt8} (hk : Rows.uptoSmall H l = true) (h : .lit (.string bs) ∈ l) : bs.length ≤ 1048576 := by
  have h0 : Rows.uptoBulkAll l ≤ 1048576 := of_decide_eq_true hk
  have h1 := mem_le h
  simp only [Rows.uptoBulk] at h1
  omega
end Go.Proofs.Ytkkeplobomncgaa.bulk
