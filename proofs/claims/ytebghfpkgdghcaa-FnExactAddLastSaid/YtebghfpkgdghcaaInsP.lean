/-
  What a row of lasts holds after an insertion in place: two copies, on cells.
-/
import Derived.Test.YtebghfpkgdghcaaCopyK
namespace Go.Proofs.Ytebghfpkgdghcaa
open Go.RowKit
/-- The cells after 'copy(s[i+1:], s[i:])' and 'copy(s[i:], v)': from the row's cells cur, of which the first n*6 are those of xs. -/
theorem ins_cells {cur : List Value} {xs : List LastD} {x : LastD} {i n : Nat} (hn : xs.length = n) (hi : i ≤ n) (hc : (n + 1) * 6 ≤ cur.length) (ht : cur.take (n * 6) = lasts xs) :
    ((cur.take ((i + 1) * 6) ++ (lasts xs).drop (i * 6) ++ cur.drop ((i + 1) * 6 + ((lasts xs).drop (i * 6)).length)).take (i * 6) ++ x.cells ++ (cur.take ((i + 1) * 6) ++ (lasts xs).drop (i * 6) ++ cur.drop ((i + 1) * 6 + ((lasts xs).drop (i * 6)).length)).drop (i * 6 + x.cells.length)).take ((n + 1) * 6) = lasts (insL xs i x) := by
  have hL : (lasts xs).length = n * 6 := by rw [lasts_len, hn]
  have hx : x.cells.length = 6 := rfl
  have e : lasts (insL xs i x) = (lasts xs).take (i * 6) ++ x.cells ++ (lasts xs).drop (i * 6) := by
    rw [insL, lasts_append, lasts_append, lasts_take, lasts_drop]; simp [lasts]
  have hD : ((lasts xs).drop (i * 6)).length = n * 6 - i * 6 := by rw [List.length_drop, hL]
  have h1 : (cur.take ((i + 1) * 6)).take (i * 6) = (lasts xs).take (i * 6) := by
    rw [← ht, List.take_take, List.take_take]
    congr 1; omega
  have hT : (cur.take ((i + 1) * 6)).length = (i + 1) * 6 := by rw [List.length_take]; omega
  rw [e, hx]
  rw [List.append_assoc (cur.take ((i + 1) * 6))]
  have h4 : (cur.take ((i + 1) * 6) ++ ((lasts xs).drop (i * 6) ++ cur.drop ((i + 1) * 6 + ((lasts xs).drop (i * 6)).length))).take (i * 6) = (lasts xs).take (i * 6) := by
    rw [List.take_append_of_le_length (by rw [hT]; omega), h1]
  have h2 : (cur.take ((i + 1) * 6) ++ ((lasts xs).drop (i * 6) ++ cur.drop ((i + 1) * 6 + ((lasts xs).drop (i * 6)).length))).drop (i * 6 + 6) = (lasts xs).drop (i * 6) ++ cur.drop ((i + 1) * 6 + ((lasts xs).drop (i * 6)).length) := by
    rw [show i * 6 + 6 = (cur.take ((i + 1) * 6)).length by rw [hT]; omega, List.drop_left]
  rw [h2, h4]
  have h3 : ((lasts xs).take (i * 6)).length = i * 6 := by rw [List.length_take, hL]; omega
  rw [← List.append_assoc, List.take_append_of_le_length (by simp only [List.length_append, h3, hx, hD]; omega), List.take_of_length_le (by simp only [List.length_append, h3, hx, hD]; omega)]
/-- The cells after 'copy(s2[i:], v)' and 'copy(s2[i+m:], s[i:])': in a new row cur, of which the first i*6 are those of xs. -/
theorem ins_cells2 {cur : List Value} {xs : List LastD} {x : LastD} {i n : Nat} (hn : xs.length = n) (hi : i ≤ n) (ht : cur.take (i * 6) = (lasts xs).take (i * 6)) :
    ((cur.take (i * 6) ++ x.cells ++ cur.drop (i * 6 + x.cells.length)).take ((i + 1) * 6) ++ (lasts xs).drop (i * 6) ++ (cur.take (i * 6) ++ x.cells ++ cur.drop (i * 6 + x.cells.length)).drop ((i + 1) * 6 + ((lasts xs).drop (i * 6)).length)).take ((n + 1) * 6) = lasts (insL xs i x) := by
  have hL : (lasts xs).length = n * 6 := by rw [lasts_len, hn]
  have hx : x.cells.length = 6 := rfl
  have e : lasts (insL xs i x) = (lasts xs).take (i * 6) ++ x.cells ++ (lasts xs).drop (i * 6) := by
    rw [insL, lasts_append, lasts_append, lasts_take, lasts_drop]; simp [lasts]
  have hD : ((lasts xs).drop (i * 6)).length = n * 6 - i * 6 := by rw [List.length_drop, hL]
  have h3 : ((lasts xs).take (i * 6)).length = i * 6 := by rw [List.length_take, hL]; omega
  have h4 : (cur.take (i * 6) ++ x.cells ++ cur.drop (i * 6 + x.cells.length)).take ((i + 1) * 6) = (lasts xs).take (i * 6) ++ x.cells := by
    rw [ht, List.take_append_of_le_length (by simp only [List.length_append, h3, hx]; omega), List.take_of_length_le (by simp only [List.length_append, h3, hx]; omega)]
  rw [e, h4, List.take_append_of_le_length (by simp only [List.length_append, h3, hx, hD]; omega), List.take_of_length_le (by simp only [List.length_append, h3, hx, hD]; omega)]
end Go.Proofs.Ytebghfpkgdghcaa
