/- A desk's map: its numbers, what is found under one, what is put in and taken away. -/
import Derived.Test.YtiekdefkclccbaaGreatDoorMapInt
namespace Go
open Go.RowKit
variable {P : Program} {w : World}

/-- The keys of a map's entries, one behind the other. -/
def MapKeys (es : Array MapEntry) (l : List Int) : Prop := es.toList.map (·.key) = l.map fun k => Value.int .i64 k
theorem MapKeys.nil : MapKeys #[] [] := rfl
theorem MapKeys.size {es : Array MapEntry} {l : List Int} (h : MapKeys es l) : es.size = l.length := by
  have := congrArg List.length h
  simpa using this
theorem MapKeys.push {es : Array MapEntry} {l : List Int} (h : MapKeys es l) (k : Int) (v : Value) (b : Nat) : MapKeys (es.push { key := .int .i64 k, val := v, born := b }) (l ++ [k]) := by
  unfold MapKeys at h ⊢
  simp [h]
theorem MapKeys.isKey {es : Array MapEntry} {l : List Int} (h : MapKeys es l) : ∀ x ∈ es.toList, MapKept.IsKey (.int .i64) x.key := fun x hx => by
  have h1 : x.key ∈ es.toList.map (·.key) := List.mem_map_of_mem hx
  rw [h] at h1
  obtain ⟨k, _, e⟩ := List.mem_map.1 h1
  rw [← e]
  simp [MapKept.IsKey]
theorem MapKeys.none {es : Array MapEntry} {l : List Int} (h : MapKeys es l) {k : Int} (hk : k ∉ l) : Instr.findNow (.int .i64) (.int .i64 k) es.toList 0 = some none := by
  rcases MapKept.findNow_spec (d := .int .i64) (k := .int .i64 k) (by simp [MapKept.IsKey]) es.toList 0 h.isKey with ⟨h1, _⟩ | ⟨j, e, h1, h2, h3⟩
  · exact h1
  · have h4 : e.key ∈ es.toList.map (·.key) := List.mem_map_of_mem (List.mem_of_getElem? h2)
    rw [h, h3] at h4
    obtain ⟨k', hk', e'⟩ := List.mem_map.1 h4
    simp at e'
    subst e'
    exact absurd hk' hk
theorem MapKeys.some {es : Array MapEntry} {l : List Int} (h : MapKeys es l) {k : Int} (hk : k ∈ l) : ∃ j e, Instr.findNow (.int .i64) (.int .i64 k) es.toList 0 = some (some (j, e.val)) ∧ es.toList[j]? = some e ∧ e.key = .int .i64 k := by
  rcases MapKept.findNow_spec (d := .int .i64) (k := .int .i64 k) (by simp [MapKept.IsKey]) es.toList 0 h.isKey with ⟨_, h2⟩ | ⟨j, e, h1, h2, h3⟩
  · have h4 : Value.int .i64 k ∈ es.toList.map (·.key) := by rw [h]; exact List.mem_map_of_mem hk
    obtain ⟨x, hx, e⟩ := List.mem_map.1 h4
    exact absurd e (h2 x hx)
  · rw [Nat.zero_add] at h1
    exact ⟨j, e, h1, h2, h3⟩
/-- What delete leaves of the entries. -/
def delEs (es : Array MapEntry) : Option (Nat × Value) → Array MapEntry
  | Option.none => es
  | Option.some (i, _) => es.eraseIdxIfInBounds i
theorem run_delete_int (mty kt et ty : TypeId) (r clock : Nat) (es : Array MapEntry) (k : Int) (i : Nat) (v : Value) (hm : P.underlying mty = some (.map kt et)) (hk : P.underlying kt = some (.int .i64)) (hb : w.heap[r]? = some (.map es clock))
    (hf : Instr.findNow (.int .i64) (.int .i64 k) es.toList 0 = some (some (i, v))) :
    (Builtin.delete_ #[mty, kt] ty #[.map (some r), .int .i64 k]).run P w = .ok (.tuple #[]) { w with heap := w.heap.setIfInBounds r (.map (es.eraseIdxIfInBounds i) clock) } := by
  have hc2 : (Instr.checkKey es.isEmpty 10000 kt (.int .i64 k)).run P w = .ok () w := MapKept.run_checkKey (k := .int .i64 k) hk (by simp [MapKept.IsKey]) _ 9999
  simp [Builtin.delete_, run_underlying hm, MapKept.run_getObj_map hb, hc2, MapKept.run_findKey hk hf, MapKept.run_setObj_map _ hb, Result.andThen]

end Go
