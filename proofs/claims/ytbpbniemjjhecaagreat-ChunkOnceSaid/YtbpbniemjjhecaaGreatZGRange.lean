import Derived.RangeFuncWrites
import Derived.RangeFuncCalls
import Derived.RangeFuncLeaves
import Derived.RangeFuncBox
namespace Go.Proofs.YtbpbniemjjhecaaGreat.G
open Go Go.RowKit
variable {F : Fence} {n : Nat} {P : Program}
def Minds {β : Type} (B : Nat) (pb : Option Nat) (I : β → World → Prop) : Prop :=
 ∀ s W W' row, I s W → W.grownBy W' row → (∀ r, row = some r → pb = some r ∨ (B ≤ r ∧ ∃ o : Obj, W.heap[r]? = some o ∧ o.isCells = false)) → I s W'
def SeqPriv {α : Type} (F : Fence) (n : Nat) (P : Program) (g : Nat) (lb : Array Value) (encs : α → Array Value) (Kp : World → World → Prop) (pb : Option Nat) (xs : List α) (w : World) : Prop :=
 ∀ (l : Nat) (J Jx : List α → World → Prop) (W : World), Below w.heap.size w W →
  (∀ pre A B, J pre A → A.grownBy B pb → J pre B) → (∀ pre A B, Jx pre A → A.grownBy B pb → Jx pre B) →
  (∀ pre x suf A, xs = pre ++ x :: suf → J pre A → YieldAt F (n - 1) P l (encs x) A fun e B =>
   (e = .returned (.bool true) ∧ J (pre ++ [x]) B ∧ Kp A B) ∨ (e = .returned (.bool false) ∧ Jx (pre ++ [x]) B)) →
  J [] W →
  CallsIn F n P g (#[.func (.yield l) #[] #[]] ++ lb) W fun e B => (∃ v, e = .returned v) ∧ (J xs B ∨ ∃ pre, Jx pre B)
theorem Minds.put {β : Type} {B : Nat} {pb : Option Nat} {I : β → World → Prop} (h : Minds B pb I) {s : β} {W : World} {l : Nat} {o : Obj} (o' : Obj) (hs : I s W) (hB : B ≤ l) (hl : W.heap[l]? = some o) (ho : o.isCells = false) : I s (W.putObj l o') :=
 h s W _ (some l) hs (grownBy_putObj' W l o') (fun r e => by cases e; exact .inr ⟨hB, o, hl, ho⟩)
theorem Minds.new {β : Type} {B : Nat} {pb : Option Nat} {I : β → World → Prop} (h : Minds B pb I) {s : β} {W : World} (o : Obj) (hs : I s W) : I s (W.alloc o) :=
 h s W _ none hs (World.grownBy_alloc W o none) (fun r e => by cases e)
theorem Minds.and {β : Type} {B : Nat} {pb : Option Nat} {I I' : β → World → Prop} (h : Minds B pb I) (h' : Minds B pb I') : Minds B pb (fun s W => I s W ∧ I' s W) := fun s W W' row hs hg hr => ⟨h s W W' row hs.1 hg hr, h' s W W' row hs.2 hg hr⟩
theorem Minds.pure {β : Type} {B : Nat} {pb : Option Nat} (p : β → Prop) : Minds B pb (fun s _ => p s) := fun _ _ _ _ hs _ _ => hs
theorem Minds.below {β : Type} {n₀ B : Nat} {pb : Option Nat} {w₀ : World} (hn : n₀ ≤ w₀.heap.size) (hB : n₀ ≤ B) (hp : ∀ k, pb = some k → n₀ ≤ k) : Minds B pb (fun (_ : β) W => Below n₀ w₀ W) :=
 fun _ _ _ _ hs hg hr => hs.grown hg (Nat.le_trans hn hs.size) (fun k e => (hr k e).elim (hp k) (fun h => Nat.le_trans hB h.1))
theorem heap_same {W W' : World} {row : Option Nat} (hg : W.grownBy W' row) {k : Nat} {o : Obj} (hk : W.heap[k]? = some o) (hne : some k ≠ row) : W'.heap[k]? = some o :=
 (hg.block k (Array.getElem?_eq_some_iff.1 hk).1 hne).trans hk
theorem wpIn_rangeFunc_priv {α : Type} {g : Operand} {ps : Array Tmp} {assign body : Code} {Q : Exit → Act → World → Prop} {a : Act} {w : World}
  (hro : F.round = none) (h1 : 1 ≤ n) {gf : Nat} {lb : Array Value} (hg : a.eval g = .func (.func gf) #[] lb) (hFg : F.fn gf) (eg : ∀ args w, (callFunc gf args).run P w = .ok (.enter gf args) w)
  {encs : α → Array Value} {Kp : World → World → Prop} {pb : Option Nat} {xs : List α} (hseq : SeqPriv F (n - 1) P gf lb encs Kp pb xs w) (hpb : ∀ k, pb = some k → k < w.heap.size)
  (hKt : ∀ {A B C : World}, Kp A B → Kp B C → Kp A C) (hKb : ∀ (W : World) (l : Nat) (o : Obj), w.heap.size ≤ l → Kp W (W.putObj l o)) (hps : ∀ x, (encs x).size = ps.size)
  (I : List α → World → Prop) (Ix : Code → List α → World → Prop) (hI : Minds w.heap.size pb I) (hIx : ∀ c, Minds w.heap.size pb (Ix c)) (h0 : I [] w) (a₁ : α → Act)
  (hassign : ∀ (l : Nat) (x : α) (W : World) (K : Act → World → Prop), K (a₁ x) W →
   assign.wpIn (F.inRound l) (n - 1 - 1) P (Exit.then K (fun _ _ _ => False)) { tmps := (ps.zip (encs x)).foldl (fun t (p, v) => t.setIfInBounds p v) a.tmps, defers := [] } W)
  (hbody : ∀ (l : Nat) (pre : List α) (x : α) (suf : List α) (W : World), xs = pre ++ x :: suf → I pre W → body.wpIn (F.inRound l) (n - 1 - 1) P (ownPostG w.heap.size Kp I Ix (pre ++ [x]) W) (a₁ x) W)
  (hdone : ∀ (D : Nat) (W : World), w.heap.size ≤ D → I xs W → W.heap[D]? = some (.deferred (some [])) → Q .normal { a with defers := { target := .collected D, args := #[] } :: a.defers } W)
  (hstop : ∀ (D : Nat) (c : Code) (pre : List α) (W : World), w.heap.size ≤ D → Ix c pre W → W.heap[D]? = some (.deferred (some [])) → c.wpIn F n P Q { a with defers := { target := .collected D, args := #[] } :: a.defers } W) :
  (Code.rangeFunc g ps assign body).wpIn F n P Q a w := by
 refine wpIn_rangeFunc fun fn hfn => ?_
 rw [hro]
 have hD := World.alloc_heap_new w (.deferred (some []))
 -- the loop's record, by its state
 let R : LoopState → Option Code → Obj := fun st pe => .loop { state := st, pending := pe, fn, tmps := a.tmps, params := ps, assign, body, defers := w.heap.size }
 have hL : ((w.alloc (.deferred (some []))).alloc (R .ready none)).heap[w.heap.size + 1]? = some (R .ready none) := by
  have := World.alloc_heap_new (w.alloc (.deferred (some []))) (R .ready none)
  rwa [World.size_alloc] at this
 have hD2 : ((w.alloc (.deferred (some []))).alloc (R .ready none)).heap[w.heap.size]? = some (.deferred (some [])) :=
  (Below.heap_alloc _ _ _ (by simp)).trans hD
 have hB1 : Below w.heap.size w ((w.alloc (.deferred (some []))).alloc (R .ready none)) :=
  ((Below.refl _ w).alloc (Nat.le_refl _) _).alloc (by simp) _
 have h01 : I [] ((w.alloc (.deferred (some []))).alloc (R .ready none)) := hI.new _ (hI.new _ h0)
 refine ⟨w.heap.size + 1, [{ target := .collected w.heap.size, args := #[] }], ((w.alloc (.deferred (some []))).alloc (R .ready none)), { target := .fn (.func gf) lb, args := #[.func (.yield (w.heap.size + 1)) #[] #[]] }, ((w.alloc (.deferred (some []))).alloc (R .ready none)), gf,
  #[.func (.yield (w.heap.size + 1)) #[] #[]] ++ lb, ((w.alloc (.deferred (some []))).alloc (R .ready none)), run_enterLoop_outer _ _ _ _ _, ?_, ?_, ?_, fun _ => h1, ?_⟩
 ·
  simp only [resolve, hg]
  simp [go_sem]
 ·
  intro f' hf'
  simp [Target.leads] at hf'
  subst hf'
  exact hFg
 ·
  simp [invoke, go_sem, eg]
 ·
  have hst : ∀ {A B : World} (k : Nat) (o : Obj), A.grownBy B pb → w.heap.size ≤ k → A.heap[k]? = some o → B.heap[k]? = some o :=
   fun k o hgr hk ho => heap_same hgr ho (fun e => by have := hpb k e.symm; omega)
  refine (hseq (w.heap.size + 1)
   (fun pre W => I pre W ∧ W.heap[w.heap.size + 1]? = some (R .ready none) ∧ W.heap[w.heap.size]? = some (.deferred (some [])))
   (fun pre W => ∃ c, Ix c pre W ∧ W.heap[w.heap.size + 1]? = some (R .done (some c)) ∧ W.heap[w.heap.size]? = some (.deferred (some [])))
   _ hB1
   (fun pre A B h hgr => ⟨hI pre A B pb h.1 hgr (fun r e => .inl e), hst _ _ hgr (by omega) h.2.1, hst _ _ hgr (Nat.le_refl _) h.2.2⟩)
   (fun pre A B h hgr => by
    obtain ⟨c, h1, h2, h3⟩ := h
    exact ⟨c, hIx c pre A B pb h1 hgr (fun r e => .inl e), hst _ _ hgr (by omega) h2, hst _ _ hgr (Nat.le_refl _) h3⟩)
   ?_ ⟨h01, hL, hD2⟩).mono ?_
  ·
   rintro pre x suf W hxs ⟨hi, hl, hd⟩
   have hlt : w.heap.size + 1 < W.heap.size := (Array.getElem?_eq_some_iff.1 hl).1
   have hy := run_yield (P := P) (args := encs x) hl (hps x)
   refine ⟨fn, _, assign, body, hy, roundIn_of_wpIn hfn (hassign _ x W _ ⟨_, run_beginRound hl rfl, ?_⟩)⟩
   have hl2 : (W.putObj (w.heap.size + 1) (R .busy none)).heap[w.heap.size + 1]? = some (R .busy none) := World.putObj_heap_same hlt
   have hd2 : (W.putObj (w.heap.size + 1) (R .busy none)).heap[w.heap.size]? = some (.deferred (some [])) := (World.putObj_heap_other (by omega)).trans hd
   refine wpIn_mono (hbody _ pre x suf (W.putObj (w.heap.size + 1) (R .busy none)) hxs (hI.put _ hi (by omega) hl rfl)) ?_
   have fin : ∀ (jump : Option Code) (W3 : World), KeepsFrom w.heap.size (W.putObj (w.heap.size + 1) (R .busy none)) W3 →
     W3.heap[w.heap.size + 1]? = some (R .busy none) ∧
     (Instr.endRound (w.heap.size + 1) jump).run P W3 = .ok (.bool jump.isNone) (W3.putObj (w.heap.size + 1) (R (if jump.isNone then .ready else .done) jump)) ∧
     (W3.putObj (w.heap.size + 1) (R (if jump.isNone then .ready else .done) jump)).heap[w.heap.size + 1]? = some (R (if jump.isNone then .ready else .done) jump) ∧
     (W3.putObj (w.heap.size + 1) (R (if jump.isNone then .ready else .done) jump)).heap[w.heap.size]? = some (.deferred (some [])) := fun jump W3 hk => by
    have e1 := hk.same _ _ (by omega) hl2 rfl
    exact ⟨e1, run_endRound (P := P) jump e1, World.putObj_heap_same (Array.getElem?_eq_some_iff.1 e1).1, (World.putObj_heap_other (by omega)).trans (hk.same _ _ (Nat.le_refl _) hd2 rfl)⟩
   intro e a3 W3 hp
   cases e with
   | normal =>
    obtain ⟨hk, hkp, hi3⟩ := hp
    obtain ⟨e1, e2, e3, e4⟩ := fin none W3 hk
    exact ⟨_, _, e2, .inl ⟨rfl, ⟨hI.put _ hi3 (by omega) e1 rfl, e3, e4⟩, hKt (hKt (hKb W _ _ (by omega)) hkp) (hKb _ _ _ (by omega))⟩⟩
   | ret =>
    obtain ⟨hk, hi3⟩ := hp
    obtain ⟨e1, e2, e3, e4⟩ := fin (some .ret) W3 hk
    exact ⟨_, _, e2, .inr ⟨rfl, .ret, (hIx _).put _ hi3 (by omega) e1 rfl, e3, e4⟩⟩
   | exit id =>
    obtain ⟨hk, hi3⟩ := hp
    obtain ⟨e1, e2, e3, e4⟩ := fin (some (.exit id)) W3 hk
    exact ⟨_, _, e2, .inr ⟨rfl, .exit id, (hIx _).put _ hi3 (by omega) e1 rfl, e3, e4⟩⟩
   | goto t =>
    obtain ⟨hk, hi3⟩ := hp
    obtain ⟨e1, e2, e3, e4⟩ := fin (some (.goto t)) W3 hk
    exact ⟨_, _, e2, .inr ⟨rfl, .goto t, (hIx _).put _ hi3 (by omega) e1 rfl, e3, e4⟩⟩
   | panic ch => exact hp.elim
   | outgrown => exact hp.elim
  ·
   rintro e W2 ⟨⟨v, rfl⟩, (⟨hi, hl, hd⟩ | ⟨pre, c, hi, hl, hd⟩)⟩
   ·
    exact ⟨none, _, run_endLoop (P := P) hl (by simp), hdone _ _ (Nat.le_refl _) (hI.put _ hi (by omega) hl rfl) ((World.putObj_heap_other (by omega)).trans hd)⟩
   ·
    exact ⟨some c, _, run_endLoop (P := P) hl (by simp), hstop _ c pre _ (Nat.le_refl _) ((hIx c).put _ hi (by omega) hl rfl) ((World.putObj_heap_other (by omega)).trans hd)⟩
end Go.Proofs.YtbpbniemjjhecaaGreat.G
