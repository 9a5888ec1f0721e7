/- Plain theory of searches and flows over a field of edges. -/
import Derived.Lib.Hide
namespace Go.Proofs.Ythedpegaelpbdaa
set_option linter.unusedVariables false

structure Ed where
  a : Nat
  b : Nat
  name : ByteArray
  brk : Bool
  fl : Int

def Ed.room (e : Ed) (u : Nat) : Int := if e.brk then 1 - (if u = e.b then -e.fl else e.fl) else 1000 - (if u = e.b then -e.fl else e.fl)
def Ed.oth (e : Ed) (u : Nat) : Nat := e.a + e.b - u
def Ed.hits (e : Ed) (u : Nat) : Prop := e.a = u ∨ e.b = u
instance (e : Ed) (u : Nat) : Decidable (e.hits u) := inferInstanceAs (Decidable (_ ∨ _))
def EdOk (n : Nat) (e : Ed) : Prop := e.a < n ∧ e.b < n ∧ e.a ≠ e.b
theorem Ed.oth_cases {e : Ed} {u : Nat} (h : e.hits u) : (e.a = u ∧ e.oth u = e.b) ∨ (e.b = u ∧ e.oth u = e.a) := by
  unfold Ed.oth
  rcases h with h | h
  · exact .inl ⟨h, by omega⟩
  · exact .inr ⟨h, by omega⟩

theorem Ed.oth_lt {e : Ed} {n u : Nat} (h : e.hits u) (ok : EdOk n e) : e.oth u < n := by
  rcases Ed.oth_cases h with ⟨_, h1⟩ | ⟨_, h1⟩ <;> rw [h1]
  · exact ok.2.1
  · exact ok.1

def scan1 (go : Ed → Nat → Bool) (u k : Nat) (e : Ed) (st : List Int × List Nat) : List Int × List Nat :=
  if e.hits u ∧ st.1.getD (e.oth u) 0 = -1 ∧ go e u = true then (st.1.set (e.oth u) k, st.2 ++ [e.oth u]) else st
def scan (go : Ed → Nat → Bool) (u : Nat) : Nat → List Ed → List Int × List Nat → List Int × List Nat
  | _, [], st => st
  | k, e :: r, st => scan go u (k + 1) r (scan1 go u k e st)
def bfs (go : Ed → Nat → Bool) (es : List Ed) (src : List Bool) : Nat → List Int → List Nat → List Int × Int
  | 0, by_, _ => (by_, -1)
  | _ + 1, by_, [] => (by_, -1)
  | f + 1, by_, u :: t => if src.getD u false = true then (by_, (u : Int)) else bfs go es src f (scan go u 0 es (by_, t)).1 (scan go u 0 es (by_, t)).2
def start (n place : Nat) : List Int := (List.replicate n (-1)).set place (-2)
def bfsR (go : Ed → Nat → Bool) (es : List Ed) (src : List Bool) (n place : Nat) : List Int × Int := bfs go es src (n + 1) (start n place) [place]

/-- the nodes visited (in their order), of which the first d are done; m edges of the next one are looked at -/
structure BI (go : Ed → Nat → Bool) (es : List Ed) (src : List Bool) (n place : Nat) (by_ : List Int) (vis : List Nat) (d : Nat) : Prop where
  len : by_.length = n
  lt : ∀ v ∈ vis, v < n
  nd : vis.Nodup
  hd : vis[0]? = some place
  mem : ∀ v, v < n → (by_.getD v 0 ≠ -1 ↔ v ∈ vis)
  par : ∀ i v, 0 < i → vis[i]? = some v → ∃ (k : Nat) (e : Ed) (u j : Nat), by_.getD v 0 = (k : Int) ∧ es[k]? = some e ∧ vis[j]? = some u ∧ j < i ∧ e.hits u ∧ e.oth u = v ∧ go e u = true
  plc : by_.getD place 0 = -2
  dle : d ≤ vis.length
  done : ∀ i u, i < d → vis[i]? = some u → src.getD u false = false ∧ ∀ e ∈ es, e.hits u → go e u = true → e.oth u ∈ vis

theorem getD_set_int (L : List Int) (i j : Nat) (v : Int) (hi : i < L.length) : (L.set i v).getD j 0 = if i = j then v else L.getD j 0 := by
  rw [List.getD_eq_getElem?_getD, List.getElem?_set, List.getD_eq_getElem?_getD]
  by_cases h : i = j
  · subst h; simp [hi]
  · simp [h]

theorem nodup_le_of_lt : ∀ (n : Nat) (l : List Nat), l.Nodup → (∀ v ∈ l, v < n) → l.length ≤ n := by
  intro n
  induction n with
  | zero => intro l _ h; cases l with
    | nil => simp
    | cons x r => exact absurd (h x (by simp)) (by omega)
  | succ n ih =>
    intro l hd h
    have h1 := ih (l.erase n) (hd.erase n) (fun v hv => by
      have h2 := h v (List.mem_of_mem_erase hv)
      have h3 : v ≠ n := fun e => by subst e; exact (List.Nodup.mem_erase_iff hd).1 hv |>.1 rfl
      omega)
    by_cases hm : n ∈ l
    · rw [List.length_erase_of_mem hm] at h1; omega
    · rw [List.erase_of_not_mem hm] at h1; omega

section
variable {go : Ed → Nat → Bool} {es : List Ed} {src : List Bool} {n place : Nat}

theorem BI.start (hp : place < n) : BI go es src n place (start n place) [place] 0 := by
  have hg : ∀ v, v < n → (Go.Proofs.Ythedpegaelpbdaa.start n place).getD v 0 = if place = v then -2 else -1 := fun v hv => by
    unfold Go.Proofs.Ythedpegaelpbdaa.start
    rw [getD_set_int _ _ _ _ (by simpa using hp)]
    by_cases h : place = v
    · simp [h]
    · simp [h, List.getD_eq_getElem?_getD, hv]
  refine ⟨by simp [Go.Proofs.Ythedpegaelpbdaa.start], by simpa using hp, by simp, rfl, fun v hv => ?_, fun i v hi h => ?_, by rw [hg _ hp, if_pos rfl], by simp, fun i u hi _ => by omega⟩
  · rw [hg v hv]
    by_cases h : place = v
    · simp [h]
    · simp [h]; exact fun e => h e.symm
  · have := (List.getElem?_eq_some_iff.1 h).1; simp at this; omega
theorem BI.len_le {by_ : List Int} {vis : List Nat} {d : Nat} (h : BI go es src n place by_ vis d) : vis.length ≤ n := nodup_le_of_lt n vis h.nd h.lt

/-- visiting one more node -/
theorem BI.visit {by_ : List Int} {vis : List Nat} {d : Nat} (h : BI go es src n place by_ vis d) {k : Nat} {e : Ed} {u : Nat} (hk : es[k]? = some e) (hu : u ∈ vis) (hh : e.hits u) (hg : go e u = true) (hv : e.oth u < n) (hnew : by_.getD (e.oth u) 0 = -1) :
    BI go es src n place (by_.set (e.oth u) k) (vis ++ [e.oth u]) d := by
  have hnv : e.oth u ∉ vis := fun hm => (h.mem _ hv).2 hm hnew
  have hl := h.len
  have hg' : ∀ v, (by_.set (e.oth u) k).getD v 0 = if e.oth u = v then (k : Int) else by_.getD v 0 := fun v => getD_set_int _ _ _ _ (by omega)
  have h0 : 0 < vis.length := (List.getElem?_eq_some_iff.1 h.hd).1
  have hdl := h.dle
  refine ⟨by simpa using hl, ?_, ?_, ?_, ?_, ?_, ?_, by simp; omega, ?_⟩
  · intro v hm
    rcases List.mem_append.1 hm with hm | hm
    · exact h.lt v hm
    · rw [List.mem_singleton.1 hm]; exact hv
  · rw [List.nodup_append]
    exact ⟨h.nd, by simp, fun a ha b hb => by rw [List.mem_singleton.1 hb]; exact fun e => hnv (e ▸ ha)⟩
  · rw [List.getElem?_append_left h0]; exact h.hd
  · intro v hv'
    rw [hg' v]
    by_cases hc : e.oth u = v
    · rw [if_pos hc]; simp [hc]
    · rw [if_neg hc, h.mem v hv', List.mem_append, List.mem_singleton]
      exact ⟨.inl, fun hx => hx.resolve_right (fun e => hc e.symm)⟩
  · intro i v hi hvi
    by_cases hlt : i < vis.length
    · rw [List.getElem?_append_left hlt] at hvi
      obtain ⟨k', e', u', j, p1, p2, p3, p4, p5⟩ := h.par i v hi hvi
      have hne : e.oth u ≠ v := fun hc => hnv (hc ▸ List.mem_of_getElem? hvi)
      exact ⟨k', e', u', j, by rw [hg', if_neg hne]; exact p1, p2, by rw [List.getElem?_append_left (by omega)]; exact p3, p4, p5⟩
    · have hil : i = vis.length := by have := (List.getElem?_eq_some_iff.1 hvi).1; simp at this; omega
      subst hil
      simp at hvi
      obtain ⟨j, hj, hju⟩ := List.mem_iff_getElem.1 hu
      exact ⟨k, e, u, j, by rw [hg', if_pos hvi], hk, by rw [List.getElem?_append_left hj, List.getElem?_eq_getElem hj, hju], hj, hh, hvi, hg⟩
  · have hpn : e.oth u ≠ place := fun hc => hnv (by rw [hc]; exact List.mem_of_getElem? h.hd)
    rw [hg', if_neg hpn]; exact h.plc
  · intro i u' hi hui
    have hlt : i < vis.length ∨ vis.length ≤ i := by omega
    rcases hlt with hlt | hge
    · rw [List.getElem?_append_left hlt] at hui
      obtain ⟨q1, q2⟩ := h.done i u' hi hui
      exact ⟨q1, fun e' he' h1 h2 => List.mem_append_left _ (q2 e' he' h1 h2)⟩
    · omega
def Seen (go : Ed → Nat → Bool) (es : List Ed) (u k : Nat) (vis : List Nat) : Prop := ∀ (j : Nat) (e : Ed), j < k → es[j]? = some e → e.hits u → go e u = true → e.oth u ∈ vis
theorem BI.scan1 {by_ : List Int} {vis : List Nat} {d u k : Nat} {e : Ed} (h : BI go es src n place by_ vis d) (hu : vis[d]? = some u) (hk : es[k]? = some e) (ok : ∀ e ∈ es, EdOk n e) (hs : Seen go es u k vis) :
    ∃ by2 vis2, scan1 go u k e (by_, vis.drop (d + 1)) = (by2, vis2.drop (d + 1)) ∧ BI go es src n place by2 vis2 d ∧ vis2[d]? = some u ∧ Seen go es u (k + 1) vis2 := by
  have hdl : d < vis.length := (List.getElem?_eq_some_iff.1 hu).1
  have hum : u ∈ vis := List.mem_of_getElem? hu
  have hok := ok e (List.mem_of_getElem? hk)
  unfold Go.Proofs.Ythedpegaelpbdaa.scan1
  by_cases hc : e.hits u ∧ (by_, vis.drop (d + 1)).1.getD (e.oth u) 0 = -1 ∧ go e u = true
  · rw [if_pos hc]
    obtain ⟨h1, h2, h3⟩ := hc
    have hv : e.oth u < n := Ed.oth_lt h1 hok
    refine ⟨_, vis ++ [e.oth u], ?_, h.visit hk hum h1 h3 hv h2, by rw [List.getElem?_append_left hdl]; exact hu, fun j e' hj he' q1 q2 => ?_⟩
    · rw [List.drop_append_of_le_length (by omega)]
    · by_cases hjk : j = k
      · subst hjk; rw [hk] at he'; injection he' with he'; subst he'; simp
      · exact List.mem_append_left _ (hs j e' (by omega) he' q1 q2)
  · rw [if_neg hc]
    refine ⟨by_, vis, rfl, h, hu, fun j e' hj he' q1 q2 => ?_⟩
    by_cases hjk : j = k
    · subst hjk
      rw [hk] at he'; injection he' with he'; subst he'
      have hv : e.oth u < n := Ed.oth_lt q1 hok
      exact Decidable.byContradiction fun hn => hc ⟨q1, Decidable.byContradiction fun h2 => hn ((h.mem _ hv).1 h2), q2⟩
    · exact hs j e' (by omega) he' q1 q2
theorem BI.scan {u : Nat} (ok : ∀ e ∈ es, EdOk n e) : ∀ (r : List Ed) (k : Nat) (by_ : List Int) (vis : List Nat) (d : Nat), es.drop k = r → BI go es src n place by_ vis d → vis[d]? = some u → Seen go es u k vis →
    ∃ by2 vis2, scan go u k r (by_, vis.drop (d + 1)) = (by2, vis2.drop (d + 1)) ∧ BI go es src n place by2 vis2 d ∧ vis2[d]? = some u ∧ Seen go es u es.length vis2
  | [], k, by_, vis, d, hr, h, hu, hs => ⟨by_, vis, rfl, h, hu, fun j e hj he => hs j e (by have := List.drop_eq_nil_iff.1 hr; omega) he⟩
  | e :: r, k, by_, vis, d, hr, h, hu, hs => by
    have hk : es[k]? = some e := by
      have : (es.drop k)[0]? = some e := by rw [hr]; rfl
      simpa using this
    obtain ⟨by2, vis2, h1, h2, h3, h4⟩ := h.scan1 hu hk ok hs
    have hr' : es.drop (k + 1) = r := by rw [← List.drop_drop, hr]; rfl
    obtain ⟨by3, vis3, g1, g2⟩ := BI.scan ok r (k + 1) by2 vis2 d hr' h2 h3 h4
    exact ⟨by3, vis3, by show Go.Proofs.Ythedpegaelpbdaa.scan go u (k + 1) r _ = _; rw [h1]; exact g1, g2⟩
theorem BI.next {by_ : List Int} {vis : List Nat} {d u : Nat} (h : BI go es src n place by_ vis d) (hu : vis[d]? = some u) (hs : Seen go es u es.length vis) (hf : src.getD u false = false) : BI go es src n place by_ vis (d + 1) := by
  refine ⟨h.len, h.lt, h.nd, h.hd, h.mem, h.par, h.plc, (List.getElem?_eq_some_iff.1 hu).1, fun i v hi hv => ?_⟩
  by_cases hid : i = d
  · subst hid
    rw [hu] at hv; injection hv with hv; subst hv
    refine ⟨hf, fun e he => ?_⟩
    obtain ⟨j, hj, rfl⟩ := List.mem_iff_getElem.1 he
    exact hs j _ hj (List.getElem?_eq_getElem hj)
  · exact h.done i v (by omega) hv

/-- what a search ends in -/
structure Found (go : Ed → Nat → Bool) (es : List Ed) (src : List Bool) (n place : Nat) (by_ : List Int) (at_ : Int) : Prop where
  ex : ∃ vis d, BI go es src n place by_ vis d ∧ ((at_ = -1 ∧ d = vis.length) ∨ ∃ u : Nat, at_ = (u : Int) ∧ vis[d]? = some u ∧ src.getD u false = true)
theorem bfs_found (ok : ∀ e ∈ es, EdOk n e) : ∀ (f : Nat) (by_ : List Int) (vis : List Nat) (d : Nat), n + 1 ≤ f + d → BI go es src n place by_ vis d → Found go es src n place (bfs go es src f by_ (vis.drop d)).1 (bfs go es src f by_ (vis.drop d)).2
  | 0, by_, vis, d, hf, h => by have := h.dle; have := h.len_le; omega
  | f + 1, by_, vis, d, hf, h => by
    by_cases hd : d < vis.length
    · obtain ⟨u, hu⟩ : ∃ u, vis[d]? = some u := ⟨_, List.getElem?_eq_getElem hd⟩
      have hdr : vis.drop d = u :: vis.drop (d + 1) := by
        rw [List.drop_eq_getElem_cons hd]
        rw [List.getElem?_eq_getElem hd] at hu; injection hu with hu; rw [hu]
      rw [hdr]
      unfold bfs
      by_cases hs : src.getD u false = true
      · rw [if_pos hs]
        exact ⟨vis, d, h, .inr ⟨u, rfl, hu, hs⟩⟩
      · rw [if_neg hs]
        obtain ⟨by2, vis2, h1, h2, h3, h4⟩ := BI.scan ok es 0 by_ vis d rfl h hu (fun j e hj => by omega)
        rw [h1]
        exact bfs_found ok f by2 vis2 (d + 1) (by omega) (h2.next h3 h4 (by simpa using hs))
    · have hdr : vis.drop d = [] := List.drop_eq_nil_iff.2 (by omega)
      rw [hdr]
      have := h.dle
      exact ⟨vis, d, h, .inl ⟨rfl, by omega⟩⟩
theorem bfsR_found (ok : ∀ e ∈ es, EdOk n e) (hp : place < n) : Found go es src n place (bfsR go es src n place).1 (bfsR go es src n place).2 := bfs_found ok (n + 1) _ [place] 0 (by omega) (BI.start hp)

/-- a set of nodes that no traversable edge leaves -/
def Closed (go : Ed → Nat → Bool) (es : List Ed) (S : Nat → Bool) : Prop := ∀ e ∈ es, ∀ u, e.hits u → go e u = true → S u = true → S (e.oth u) = true
/-- sound: what is visited lies in every closed set with the place -/
theorem BI.sound {by_ : List Int} {vis : List Nat} {d : Nat} (h : BI go es src n place by_ vis d) {S : Nat → Bool} (hS : Closed go es S) (hp : S place = true) : ∀ v ∈ vis, S v = true := by
  have key : ∀ (m i : Nat) v, i < m → vis[i]? = some v → S v = true := by
    intro m
    induction m with
    | zero => intro i v hi; omega
    | succ m ih =>
      intro i v hi hv
      by_cases h0 : i = 0
      · subst h0; rw [h.hd] at hv; injection hv with hv; subst hv; exact hp
      · obtain ⟨k, e, u, j, _, p2, p3, p4, p5, p6, p7⟩ := h.par i v (by omega) hv
        rw [← p6]
        exact hS e (List.mem_of_getElem? p2) u p5 p7 (ih j u (by omega) p3)
  intro v hv
  obtain ⟨i, hi, rfl⟩ := List.mem_iff_getElem.1 hv
  exact key (i + 1) i _ (by omega) (List.getElem?_eq_getElem hi)
theorem found_sound {by_ : List Int} {at_ : Int} (h : Found go es src n place by_ at_) {S : Nat → Bool} (hS : Closed go es S) (hp : S place = true) (hn : ∀ v, v < n → src.getD v false = true → S v = false) : at_ = -1 := by
  obtain ⟨vis, d, hb, h1 | ⟨u, h1, h2, h3⟩⟩ := h.ex
  · exact h1.1
  · have hm := List.mem_of_getElem? h2
    have := hb.sound hS hp u hm
    rw [hn u (hb.lt u hm) h3] at this
    cases this
/-- complete: if nothing is found, what is visited is closed, without sources -/
theorem found_none {by_ : List Int} {at_ : Int} (ok : ∀ e ∈ es, EdOk n e) (hp : place < n) (h : Found go es src n place by_ at_) (h0 : at_ < 0) : at_ = -1 ∧ by_.length = n ∧ Closed go es (fun v => decide (v < n ∧ by_.getD v 0 ≠ -1)) ∧ by_.getD place 0 ≠ -1 ∧ ∀ v, v < n → src.getD v false = true → by_.getD v 0 = -1 := by
  obtain ⟨vis, d, hb, ⟨h1, h2⟩ | ⟨u, h1, _⟩⟩ := h.ex
  · have hall : ∀ u ∈ vis, src.getD u false = false ∧ ∀ e ∈ es, e.hits u → go e u = true → e.oth u ∈ vis := fun u hu => by
      obtain ⟨i, hi, rfl⟩ := List.mem_iff_getElem.1 hu
      exact hb.done i _ (by omega) (List.getElem?_eq_getElem hi)
    refine ⟨h1, hb.len, fun e he u hh hg hS => ?_, by rw [hb.plc]; decide, fun v hv hs => Decidable.byContradiction fun hn => ?_⟩
    · simp only [decide_eq_true_eq] at hS ⊢
      have hm := (hall u ((hb.mem u hS.1).1 hS.2)).2 e he hh hg
      exact ⟨hb.lt _ hm, (hb.mem _ (hb.lt _ hm)).2 hm⟩
    · have := (hall v ((hb.mem v hv).1 hn)).1
      rw [this] at hs; cases hs
  · omega
end
end Go.Proofs.Ythedpegaelpbdaa
