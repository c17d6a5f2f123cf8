/- Engine, part 7: steps of the world: a new block, a store. -/
import Derived.Test.YtnhcchmbdkiodaaGreatAvF
set_option linter.unusedVariables false
set_option linter.unusedSimpArgs false
set_option autoImplicit false
namespace Go.Av
variable {P : Program}

/-- What a step of the world leaves alone. -/
structure Stp (w w' : World) (F F' : Foot) : Prop where
  os : w'.os = w.os
  tape : w'.tape = w.tape
  output : w'.output = w.output
  size : w.heap.size ≤ w'.heap.size
  keep : ∀ b, b < w.heap.size → F b = 0 → w'.heap[b]? = w.heap[b]?
  free : ∀ b, b < w.heap.size → F b = 0 → F' b = 0
  one : ∀ b, F' b ≤ 1
  blk : ∀ b, F' b ≠ 0 → b < w'.heap.size
theorem Stp.ext [Known P] {B : Base P} {w w' : World} {F F' : Foot} {mu mu' : Nat → Hdr} {n n' : Nat} (h : Stp w w' F F') (hn : n ≤ n') (hm : ∀ o, o < n → mu' o = mu o) :
    Ext (cx B w mu F n) (cx B w' mu' F' n') :=
  ⟨fun b hb => ⟨Nat.lt_of_lt_of_le hb.1 h.size, h.free b hb.1 hb.2.1, hb.2.2⟩, fun b hb => h.keep b hb.1 hb.2.1, hn, hm⟩
theorem Core.step [Known P] {B : Base P} {s s' : St} {a : Act} {w w' : World} {mu mu' : Nat → Hdr} {F F' : Foot} (c : Core B s a w mu F) (h : Stp w w' F F') (hn : s.nx ≤ s'.nx) (hm : ∀ o, o < s.nx → mu' o = mu o)
    (ht : s'.tm = s.tm) (hh : RepH (cx B w' mu' F' s'.nx) s'.hp F') : Core B s' a w' mu' F' := by
  have hx : Ext (cx B w mu F s.nx) (cx B w' mu' F' s'.nx) := h.ext hn hm
  refine ⟨c.defers, Nat.le_trans c.nx hn, fun o ho => (hm o (Nat.lt_of_lt_of_le ho c.nx)).trans (c.mub o ho), h.os.trans c.os, h.tape.trans c.tape, h.output.trans c.output, Nat.le_trans c.size h.size, fun b hb hz => ?_, h.one, fun b hb => ⟨h.blk b hb, ?_⟩, fun t => ?_, hh⟩
  · have hF : F b = 0 := by
      refine Classical.byContradiction fun hne => ?_
      rcases (c.blk b hne).2 with h1 | h1
      · omega
      · exact h1 hz
    rw [h.keep b (Nat.lt_of_lt_of_le hb c.size) hF]
    exact c.old b hb hz
  · by_cases hs : b < w.heap.size
    · have : F b ≠ 0 := fun h0 => hb (h.free b hs h0)
      exact (c.blk b this).2
    · exact .inl (Nat.le_trans c.size (by omega))
  · rw [ht]
    exact (c.tm t).mono hx _ _ _ (fun b hb => absurd rfl hb)

theorem alloc_heap (w : World) (o : Obj) (b : Nat) : (w.alloc o).heap[b]? = if b = w.heap.size then some o else w.heap[b]? := by
  show (w.heap.push o)[b]? = _
  rw [Array.getElem?_push]
theorem stp_alloc {w : World} {F F' : Foot} (o : Obj) (hb : ∀ b, F b ≠ 0 → b < w.heap.size) (h1 : ∀ b, F b ≤ 1) (hF : ∀ b, F' b ≤ (if b = w.heap.size then 1 else 0) + F b) : Stp w (w.alloc o) F F' where
  os := rfl
  tape := rfl
  output := rfl
  size := by show _ ≤ (w.heap.push o).size; simp
  keep b h _ := by rw [alloc_heap, if_neg (by omega)]
  free b h h0 := by have := hF b; rw [if_neg (by omega)] at this; omega
  one b := by
    have h2 := hF b
    by_cases e : b = w.heap.size
    · have : F b = 0 := Classical.byContradiction fun hne => by have := hb b hne; omega
      rw [if_pos e] at h2; omega
    · rw [if_neg e] at h2; have := h1 b; omega
  blk b h := by
    have h2 := hF b
    show b < (w.heap.push o).size
    rw [Array.size_push]
    by_cases e : b = w.heap.size
    · omega
    · rw [if_neg e] at h2; have := hb b (by omega); omega
def updMu (mu : Nat → Hdr) (o : Nat) (h : Hdr) : Nat → Hdr := fun n => if n = o then h else mu n

/-- A new object: its rows are known, the objects that went into it are gone. -/
theorem Core.new [Known P] {B : Base P} {s : St} {a : Act} {w : World} {mu : Nat → Hdr} {F : Foot} (c : Core B s a w mu F) {h' : Hp} {rows : List (List AV)} {d : List AV} {cc : Array Value} {e cap : Nat} {t : TypeId} {g : Bool} {FR Fh : Foot}
    (ho : RepO ((cx B w mu F s.nx).sel g) e rows cc 0 FR) (hh : RepH (cx B w mu F s.nx) h' Fh) (hs : ∀ b, FR b + Fh b ≤ F b) (hcap : rows.length ≤ cap) (hlim : rows.length ≤ lim) (hsz : cc.size = cap * e) :
    ∃ F', Core B ⟨s.tm, (s.nx, ⟨e, rows, d, g⟩) :: h', s.nx + 1⟩ a (w.alloc (.cells cc t (0, 0))) (updMu mu s.nx ⟨some w.heap.size, rows.length, cap, e⟩) F' := by
  let F' : Foot := fun b => (if b = w.heap.size then 1 else 0) + (FR b + Fh b)
  have st : Stp w (w.alloc (.cells cc t (0, 0))) F F' := stp_alloc _ (fun b hb => (c.blk b hb).1) c.one (fun b => by have := hs b; simp only [F']; omega)
  have hm : ∀ o, o < s.nx → updMu mu s.nx ⟨some w.heap.size, rows.length, cap, e⟩ o = mu o := fun o ho => by unfold updMu; rw [if_neg (by omega)]
  have hx := st.ext (B := B) (mu := mu) (mu' := updMu mu s.nx ⟨some w.heap.size, rows.length, cap, e⟩) (n := s.nx) (n' := s.nx + 1) (by omega) hm
  have hkeep : ∀ b, F b ≠ 0 → (w.alloc (.cells cc t (0, 0))).heap[b]? = w.heap[b]? := fun b hb => by
    rw [alloc_heap, if_neg (by have := (c.blk b hb).1; omega)]
  refine ⟨F', c.step st (by simp) hm rfl ⟨fun b => (if b = w.heap.size then 1 else 0) + FR b, Fh, ⟨by simp [cx], .inr ⟨w.heap.size, cc, t, FR, ?_, ?_, ?_, ?_, hlim, ?_, ?_, ?_, fun _ => rfl⟩⟩, ?_, fun b => ?_⟩⟩
  · simp [cx, updMu]
  · simp [cx, updMu]
  · simp [cx, updMu]
  · simpa [cx, updMu] using hcap
  · show (w.alloc _).heap[w.heap.size]? = _
    rw [alloc_heap, if_pos rfl]
  · simpa [cx, updMu] using hsz
  · exact ho.mono (hx.sel g) _ _ _ _ _ (fun b hb => by rw [Cx.sel_w, Cx.sel_w]; exact hkeep b (by have := hs b; omega))
  · exact RepH.mono hx h' Fh hh (fun b hb => hkeep b (by have := hs b; omega))
  · simp only [F']; omega

/-! ### Stores -/
def wr : Array Value → Nat → List Value → Array Value
  | c, _, [] => c
  | c, o, v :: r => wr (c.setIfInBounds o v) (o + 1) r
theorem wr_size : ∀ (vs : List Value) (c : Array Value) (o : Nat), (wr c o vs).size = c.size
  | [], c, o => rfl
  | v :: r, c, o => by rw [wr, wr_size r]; simp
theorem wr_out : ∀ (vs : List Value) (c : Array Value) (o j : Nat), (j < o ∨ o + vs.length ≤ j) → (wr c o vs)[j]? = c[j]?
  | [], c, o, j, h => rfl
  | v :: r, c, o, j, h => by
    rw [wr, wr_out r _ _ _ (by simp at h; omega), Array.getElem?_setIfInBounds_ne (by simp at h; omega)]
theorem wr_in : ∀ (vs : List Value) (c : Array Value) (o j : Nat) (v : Value), o + vs.length ≤ c.size → vs[j]? = some v → (wr c o vs)[o + j]? = some v
  | [], c, o, j, v, h, hj => by simp at hj
  | u :: r, c, o, 0, v, h, hj => by
    obtain rfl : u = v := by simpa using hj
    rw [wr, wr_out r _ _ _ (by omega)]
    rw [List.length_cons] at h
    rw [Nat.add_zero, Array.getElem?_setIfInBounds_self_of_lt (by omega)]
  | u :: r, c, o, j + 1, v, h, hj => by
    rw [wr, show o + (j + 1) = o + 1 + j by omega]
    exact wr_in r _ _ j v (by rw [List.length_cons] at h; rw [Array.size_setIfInBounds]; omega) (by simpa using hj)
theorem setCells_heap : ∀ (vs : List Value) (w : World) (b o : Nat) (c : Array Value) (t : TypeId) (fr : Nat × Nat), w.heap[b]? = some (.cells c t fr) →
    (w.setCells b o vs).heap[b]? = some (.cells (wr c o vs) t fr)
  | [], w, b, o, c, t, fr, h => h
  | v :: r, w, b, o, c, t, fr, h => by
    rw [World.setCells, wr]
    refine setCells_heap r _ b (o + 1) _ t fr ?_
    show (w.heap.modify b _)[b]? = _
    rw [Array.getElem?_modify, if_pos rfl, h]; rfl
theorem setCells_other : ∀ (vs : List Value) (w : World) (b o k : Nat), k ≠ b → (w.setCells b o vs).heap[k]? = w.heap[k]?
  | [], w, b, o, k, h => rfl
  | v :: r, w, b, o, k, h => by
    rw [World.setCells, setCells_other r _ _ _ _ h]
    exact Go.RowKit.Below.heap_setCell _ _ _ _ h
theorem setCells_same : ∀ (vs : List Value) (w : World) (b o : Nat), (w.setCells b o vs).os = w.os ∧ (w.setCells b o vs).tape = w.tape ∧ (w.setCells b o vs).output = w.output ∧ (w.setCells b o vs).heap.size = w.heap.size
  | [], w, b, o => ⟨rfl, rfl, rfl, rfl⟩
  | v :: r, w, b, o => by
    obtain ⟨h1, h2, h3, h4⟩ := setCells_same r (w.setCell ⟨b, o, none⟩ v) b (o + 1)
    rw [World.setCells]
    exact ⟨h1, h2, h3, by rw [h4]; simp [World.setCell]⟩
theorem stp_write {w : World} {F F' : Foot} (b o : Nat) (vs : List Value) (hb : F b ≠ 0) (hle : ∀ x, F' x ≤ F x) (h1 : ∀ x, F x ≤ 1) (hk : ∀ x, F x ≠ 0 → x < w.heap.size) : Stp w (w.setCells b o vs) F F' := by
  obtain ⟨e1, e2, e3, e4⟩ := setCells_same vs w b o
  refine ⟨e1, e2, e3, by omega, fun x hx h0 => setCells_other _ _ _ _ _ (fun e => hb (e ▸ h0)), fun x hx h0 => by have := hle x; omega, fun x => by have := hle x; have := h1 x; omega, fun x hx => ?_⟩
  rw [e4]; exact hk x (by have := hle x; omega)
/-- Writing cells into a block of one's own. -/
theorem storeCells_run {w : World} {b o : Nat} {c : Array Value} {t : TypeId} {vs : List Value} (h : w.heap[b]? = some (.cells c t (0, 0))) (hs : o + vs.length ≤ c.size) (h1 : ∀ v ∈ vs, v.oneCell' = true) :
    (storeCells ⟨b, o, none⟩ vs).run P w = .ok () (w.setCells b o vs) := by
  refine run_storeCells_cells (P := P) b o vs 0 w (fun j hj => ?_) (fun j hj => ?_) h1
  · simp only [World.cell?, h, Nat.add_zero]
    simp; omega
  · simp only [World.frozen?, h]
    simp
end Go.Av
