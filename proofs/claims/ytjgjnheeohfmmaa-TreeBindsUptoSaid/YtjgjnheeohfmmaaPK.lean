/- An expression's bulk bounds what it holds. -/
import Derived.Test.YtjgjnheeohfmmaaPF
import Derived.Test.YtjgjnheeohfmmaaAO2
namespace Go.Proofs.Ytjgjnheeohfmmaa
open Go.RowKit
mutual
theorem Pa.size_bulk : ∀ q : Pa, q.size ≤ bulks q.cells
  | .mk k s n ks p => by
    have := Pa.sizes_bulk ks
    simp only [Pa.size, Pa.cells, bulks, AV.bulk]; omega
theorem Pa.sizes_bulk : ∀ l : List Pa, Pa.sizes l ≤ bulkss (Pa.cellss l)
  | [] => by simp [Pa.sizes, Pa.cellss, bulkss]
  | x :: l => by
    have := Pa.size_bulk x
    have := Pa.sizes_bulk l
    simp only [Pa.sizes, Pa.cellss, bulkss]; omega
end
mutual
theorem Ex.w_bulk : ∀ e : Ex, e.w ≤ bulks e.cells
  | .mk k s n t ks al bs p => by
    have := Ex.ws_bulk ks
    have := Al.ws_bulk al
    have := Bi.ws_bulk bs
    simp only [Ex.w, Ex.cells, bulks, bulks_app, AV.bulk]; omega
theorem Ex.ws_bulk : ∀ l : List Ex, Ex.ws l ≤ bulkss (Ex.cellss l)
  | [] => by simp [Ex.ws, Ex.cellss, bulkss]
  | x :: l => by
    have := Ex.w_bulk x
    have := Ex.ws_bulk l
    simp only [Ex.ws, Ex.cellss, bulkss]; omega
theorem Al.w_bulk : ∀ e : Al, e.w ≤ bulks e.cells
  | .mk q e => by
    have := Pa.size_bulk q
    have := Ex.w_bulk e
    simp only [Al.w, Al.cells, bulks_app]; omega
theorem Al.ws_bulk : ∀ l : List Al, Al.ws l ≤ bulkss (Al.cellss l)
  | [] => by simp [Al.ws, Al.cellss, bulkss]
  | x :: l => by
    have := Al.w_bulk x
    have := Al.ws_bulk l
    simp only [Al.ws, Al.cellss, bulkss]; omega
theorem Bi.w_bulk : ∀ e : Bi, e.w ≤ bulks e.cells
  | .mk s e p => by
    have := Ex.w_bulk e
    simp only [Bi.w, Bi.cells, bulks, bulks_app, AV.bulk]; omega
theorem Bi.ws_bulk : ∀ l : List Bi, Bi.ws l ≤ bulkss (Bi.cellss l)
  | [] => by simp [Bi.ws, Bi.cellss, bulkss]
  | x :: l => by
    have := Bi.w_bulk x
    have := Bi.ws_bulk l
    simp only [Bi.ws, Bi.cellss, bulkss]; omega
end
end Go.Proofs.Ytjgjnheeohfmmaa
