import Derived.ProofKit
namespace Go.Proofs.YtbpbniemjjhecaaGreat.GT
set_option linter.unusedVariables false
set_option linter.unusedSimpArgs false
structure Wk where
 st : Nat × UInt8 → Option Int
 n : Nat
 en : Nat → Option Int
def Wk.nil : Wk := ⟨fun _ => none, 0, fun _ => none⟩
def Wk.step (k : Wk) (a : Nat) (c : UInt8) : Wk := ⟨fun j => if j = (a, c) then some ((k.n : Int) + 1) else k.st j, k.n + 1, k.en⟩
def putGo : List UInt8 → Nat → Wk → Wk × Nat
 | [], a, k => (k, a)
 | c :: s, a, k => match k.st (a, c) with
  | some b => putGo s b.toNat k
  | none => putGo s (k.n + 1) (k.step a c)
def Wk.end_ (k : Wk) (a : Nat) (r : Int) : Wk := ⟨k.st, k.n, fun j => if j = a then some r else k.en j⟩
def Wk.put (k : Wk) (s : List UInt8) (r : Int) : Wk := (putGo s 0 k).1.end_ (putGo s 0 k).2 r
def matchGo (k : Wk) : List UInt8 → Nat → Option Int
 | [], _ => none
 | c :: s, a => match k.st (a, c) with
  | none => none
  | some b => match k.en b.toNat with
   | some r => some r
   | none => matchGo k s b.toNat
def reach (k : Wk) : List UInt8 → Nat → Option Nat
 | [], a => some a
 | c :: s, a => (k.st (a, c)).bind fun b => reach k s b.toNat
structure Inv (k : Wk) : Prop where
 range : ∀ a c b, k.st (a, c) = some b → 1 ≤ b ∧ b ≤ k.n ∧ a ≤ k.n
 inj : ∀ a c a' c' b, k.st (a, c) = some b → k.st (a', c') = some b → a = a' ∧ c = c'
 ends : ∀ a r, k.en a = some r → a ≤ k.n
theorem Inv.nil : Inv Wk.nil := ⟨fun _ _ _ h => (by cases h), fun _ _ _ _ _ h => (by cases h), fun _ _ h => (by cases h)⟩
theorem Inv.step {k : Wk} (h : Inv k) (a : Nat) (c : UInt8) (ha : a ≤ k.n) (hn : k.st (a, c) = none) : Inv (k.step a c) where
 range := by
  intro a' c' b hb
  simp only [Wk.step] at hb ⊢
  by_cases e : (a', c') = (a, c)
  ·
   rw [if_pos e] at hb
   have := Option.some.inj hb
   have := congrArg Prod.fst e
   simp only at this
   omega
  ·
   rw [if_neg e] at hb
   have := h.range a' c' b hb
   omega
 inj := by
  intro a1 c1 a2 c2 b h1 h2
  simp only [Wk.step] at h1 h2
  by_cases e1 : (a1, c1) = (a, c)
  ·
   by_cases e2 : (a2, c2) = (a, c)
   ·
    have := e1.trans e2.symm
    exact ⟨congrArg Prod.fst this, congrArg Prod.snd this⟩
   ·
    rw [if_pos e1] at h1
    rw [if_neg e2] at h2
    have := h.range a2 c2 b h2
    have := Option.some.inj h1
    omega
  ·
   rw [if_neg e1] at h1
   by_cases e2 : (a2, c2) = (a, c)
   ·
    rw [if_pos e2] at h2
    have := h.range a1 c1 b h1
    have := Option.some.inj h2
    omega
   ·
    rw [if_neg e2] at h2
    exact h.inj a1 c1 a2 c2 b h1 h2
 ends := fun b r hr => by
  have := h.ends b r hr
  simp only [Wk.step]
  omega
theorem reach_snoc (k : Wk) (c : UInt8) : ∀ (s : List UInt8) (a : Nat), reach k (s ++ [c]) a = (reach k s a).bind fun b => (k.st (b, c)).map Int.toNat
 | [], a => by
  simp only [List.nil_append, reach, Option.bind_some]
  cases k.st (a, c) <;> rfl
 | d :: s, a => by
  simp only [List.cons_append, reach]
  cases k.st (a, d) with
  | none => rfl
  | some b => simp only [Option.bind_some]; exact reach_snoc k c s b.toNat
theorem reach_append (k : Wk) (t : List UInt8) : ∀ (s : List UInt8) (a : Nat), reach k (s ++ t) a = (reach k s a).bind fun b => reach k t b
 | [], a => rfl
 | d :: s, a => by
  simp only [List.cons_append, reach]
  cases k.st (a, d) with
  | none => rfl
  | some b => simp only [Option.bind_some]; exact reach_append k t s b.toNat
theorem reach_le {k : Wk} (h : Inv k) : ∀ (s : List UInt8) (a b : Nat), a ≤ k.n → reach k s a = some b → b ≤ k.n
 | [], a, b, ha, hb => by simp only [reach, Option.some.injEq] at hb; omega
 | c :: s, a, b, ha, hb => by
  simp only [reach] at hb
  obtain ⟨x, hx, hb⟩ := Option.bind_eq_some_iff.1 hb
  have := h.range a c x hx
  exact reach_le h s x.toNat b (by omega) hb
theorem reach_inj {k : Wk} (h : Inv k) : ∀ (n : Nat) (u v : List UInt8) (a : Nat), u.length + v.length ≤ n → reach k u 0 = some a → reach k v 0 = some a → u = v := by
 intro n
 induction n with
 | zero =>
  intro u v a hl _ _
  rw [List.length_eq_zero_iff.1 (show u.length = 0 by omega), List.length_eq_zero_iff.1 (show v.length = 0 by omega)]
 | succ n ih =>
  intro u v a hl hu hv
  rcases List.eq_nil_or_concat u with rfl | ⟨u', c, rfl⟩
  ·
   rcases List.eq_nil_or_concat v with rfl | ⟨v', d, rfl⟩
   ·
    rfl
   ·
    rw [List.concat_eq_append, reach_snoc] at hv
    obtain ⟨x, hx, hv⟩ := Option.bind_eq_some_iff.1 hv
    obtain ⟨y, hy, hv⟩ := Option.map_eq_some_iff.1 hv
    have := h.range _ _ _ hy
    simp only [reach, Option.some.injEq] at hu
    omega
  ·
   rw [List.concat_eq_append, reach_snoc] at hu
   obtain ⟨x, hx, hu⟩ := Option.bind_eq_some_iff.1 hu
   obtain ⟨y, hy, hu⟩ := Option.map_eq_some_iff.1 hu
   have hy1 := h.range _ _ _ hy
   rcases List.eq_nil_or_concat v with rfl | ⟨v', d, rfl⟩
   ·
    simp only [reach, Option.some.injEq] at hv
    omega
   ·
    rw [List.concat_eq_append, reach_snoc] at hv
    obtain ⟨x', hx', hv⟩ := Option.bind_eq_some_iff.1 hv
    obtain ⟨y', hy', hv⟩ := Option.map_eq_some_iff.1 hv
    have hy1' := h.range _ _ _ hy'
    obtain rfl : y = y' := by omega
    obtain ⟨rfl, rfl⟩ := h.inj _ _ _ _ _ hy hy'
    rw [ih u' v' x (by simp only [List.concat_eq_append, List.length_append, List.length_singleton] at hl; omega) hx hx']
structure Ext (k k' : Wk) : Prop where
 old : ∀ j b, k.st j = some b → k'.st j = some b
 new : ∀ a c b, k'.st (a, c) = some b → k.st (a, c) = some b ∨ (k.n : Int) < b
 en : k'.en = k.en
 le : k.n ≤ k'.n
theorem putGo_ext : ∀ (s : List UInt8) (a : Nat) (k : Wk), Inv k → a ≤ k.n → Inv (putGo s a k).1 ∧ Ext k (putGo s a k).1 ∧ reach (putGo s a k).1 s a = some (putGo s a k).2 ∧ (putGo s a k).1.n ≤ k.n + s.length
 | [], a, k, h, ha => ⟨h, ⟨fun _ _ h => h, fun _ _ _ h => .inl h, rfl, Nat.le_refl _⟩, rfl, Nat.le_refl _⟩
 | c :: s, a, k, h, ha => by
  cases e : k.st (a, c) with
  | some b =>
   have hg : putGo (c :: s) a k = putGo s b.toNat k := by rw [putGo, e]
   rw [hg]
   have hr := h.range a c b e
   obtain ⟨h1, h2, h3, h4⟩ := putGo_ext s b.toNat k h (by omega)
   refine ⟨h1, h2, ?_, by rw [List.length_cons]; omega⟩
   simp only [reach]
   rw [h2.old _ _ e]
   exact h3
  | none =>
   have hg : putGo (c :: s) a k = putGo s (k.n + 1) (k.step a c) := by rw [putGo, e]
   rw [hg]
   obtain ⟨h1, h2, h3, h4⟩ := putGo_ext s (k.n + 1) (k.step a c) (h.step a c ha e) (Nat.le_refl _)
   have hstep : (k.step a c).st (a, c) = some ((k.n : Int) + 1) := by simp [Wk.step]
   have hn : (k.step a c).n = k.n + 1 := rfl
   refine ⟨h1, ⟨fun j b hb => ?_, fun a' c' b hb => ?_, h2.en, by have := h2.le; rw [hn] at this; omega⟩, ?_, by rw [hn] at h4; rw [List.length_cons]; omega⟩
   ·
    refine h2.old j b ?_
    simp only [Wk.step]
    rw [if_neg (fun ej => by rw [ej, e] at hb; cases hb)]
    exact hb
   ·
    rcases h2.new a' c' b hb with h5 | h5
    ·
     simp only [Wk.step] at h5
     by_cases ej : (a', c') = (a, c)
     ·
      rw [if_pos ej] at h5
      have := Option.some.inj h5
      exact .inr (by omega)
     ·
      rw [if_neg ej] at h5
      exact .inl h5
    ·
     rw [hn] at h5
     exact .inr (by omega)
   ·
    simp only [reach]
    rw [h2.old _ _ hstep, Option.bind_some, show ((k.n : Int) + 1).toNat = k.n + 1 from by omega]
    exact h3
theorem reach_ext {k k' : Wk} (he : Ext k k') : ∀ (s : List UInt8) (a b : Nat), reach k s a = some b → reach k' s a = some b
 | [], a, b, h => h
 | c :: s, a, b, h => by
  simp only [reach] at h ⊢
  obtain ⟨x, hx, h⟩ := Option.bind_eq_some_iff.1 h
  rw [he.old _ _ hx]
  exact reach_ext he s x.toNat b h
theorem reach_new {k k' : Wk} (hi : Inv k) (he : Ext k k') : ∀ (s : List UInt8) (a b : Nat), (k.n < a ∨ reach k s a = none) → reach k' s a = some b → k.n < b
 | [], a, b, h, hb => by
  simp only [reach, Option.some.injEq] at hb
  rcases h with h | h
  ·
   omega
  ·
   simp [reach] at h
 | c :: s, a, b, h, hb => by
  simp only [reach] at hb
  obtain ⟨x, hx, hb⟩ := Option.bind_eq_some_iff.1 hb
  rcases he.new a c x hx with h1 | h1
  ·
   have hr := hi.range a c x h1
   refine reach_new hi he s x.toNat b ?_ hb
   rcases h with h | h
   ·
    omega
   ·
    simp only [reach, h1, Option.bind_some] at h
    exact .inr h
  ·
   exact reach_new hi he s x.toNat b (.inl (by omega)) hb
def val (k : Wk) (u : List UInt8) : Option Int := (reach k u 0).bind k.en
theorem put_inv {k : Wk} (h : Inv k) (s : List UInt8) (r : Int) : Inv (k.put s r) := by
 obtain ⟨h1, h2, h3, h4⟩ := putGo_ext s 0 k h (Nat.zero_le _)
 refine ⟨h1.range, h1.inj, fun a q hq => ?_⟩
 simp only [Wk.put, Wk.end_] at hq ⊢
 by_cases e : a = (putGo s 0 k).2
 ·
  rw [e]
  exact reach_le h1 s 0 _ (Nat.zero_le _) h3
 ·
  rw [if_neg e] at hq
  exact h1.ends a q hq
theorem put_n {k : Wk} (h : Inv k) (s : List UInt8) (r : Int) : (k.put s r).n ≤ k.n + s.length := (putGo_ext s 0 k h (Nat.zero_le _)).2.2.2
theorem reach_end (k : Wk) (e : Nat) (r : Int) : ∀ (s : List UInt8) (a : Nat), reach (k.end_ e r) s a = reach k s a
 | [], a => rfl
 | c :: s, a => by
  simp only [reach, Wk.end_]
  cases k.st (a, c) with
  | none => rfl
  | some b => exact reach_end k e r s b.toNat
theorem val_put {k : Wk} (h : Inv k) (s : List UInt8) (r : Int) (u : List UInt8) : val (k.put s r) u = if u = s then some r else val k u := by
 obtain ⟨h1, h2, h3, h4⟩ := putGo_ext s 0 k h (Nat.zero_le _)
 unfold val Wk.put
 rw [reach_end]
 by_cases e : u = s
 ·
  subst e
  rw [if_pos rfl, h3]
  simp [Wk.end_]
 ·
  rw [if_neg e]
  cases hu : reach (putGo s 0 k).1 u 0 with
  | none =>
   cases hk : reach k u 0 with
   | none => rfl
   | some b =>
    rw [reach_ext h2 u 0 b hk] at hu
    cases hu
  | some a =>
   have hne : a ≠ (putGo s 0 k).2 := fun e2 => e (reach_inj h1 _ u s a (Nat.le_refl _) hu (by rw [h3, e2]))
   simp only [Option.bind_some, Wk.end_, if_neg hne, h2.en]
   cases hk : reach k u 0 with
   | none =>
    have hlt := reach_new h h2 u 0 a (.inr hk) hu
    cases ha : k.en a with
    | none => rfl
    | some q =>
     have := h.ends a q ha
     omega
   | some b =>
    have hb := reach_ext h2 u 0 b hk
    rw [hu] at hb
    rw [Option.some.inj hb]
    rfl
theorem match_some (k : Wk) : ∀ (s : List UInt8) (a : Nat) (r : Int), matchGo k s a = some r → ∃ u, u ≠ [] ∧ u <+: s ∧ (reach k u a).bind k.en = some r
 | [], a, r, h => by simp [matchGo] at h
 | c :: s, a, r, h => by
  simp only [matchGo] at h
  cases e : k.st (a, c) with
  | none => rw [e] at h; simp at h
  | some b =>
   rw [e] at h
   simp only at h
   cases e2 : k.en b.toNat with
   | some q =>
    rw [e2] at h
    simp only [Option.some.injEq] at h
    subst h
    exact ⟨[c], by simp, by simp, by simp [reach, e, e2]⟩
   | none =>
    rw [e2] at h
    obtain ⟨u, h1, h2, h3⟩ := match_some k s b.toNat r h
    exact ⟨c :: u, by simp, by simpa using h2, by simpa [reach, e] using h3⟩
theorem match_none (k : Wk) : ∀ (s : List UInt8) (a : Nat), matchGo k s a = none → ∀ u, u ≠ [] → u <+: s → (reach k u a).bind k.en = none
 | [], a, h, u, hu, hp => absurd (List.prefix_nil.1 hp) hu
 | c :: s, a, h, u, hu, hp => by
  cases u with
  | nil => exact absurd rfl hu
  | cons d u =>
   obtain ⟨hd, hp2⟩ := List.cons_prefix_cons.1 hp
   subst hd
   simp only [matchGo] at h
   simp only [reach]
   cases e : k.st (a, d) with
   | none => rfl
   | some b =>
    rw [e] at h
    simp only at h
    cases e2 : k.en b.toNat with
    | some q => rw [e2] at h; simp at h
    | none =>
     rw [e2] at h
     simp only [Option.bind_some]
     cases u with
     | nil => simpa [reach] using e2
     | cons x u => exact match_none k s b.toNat h (x :: u) (by simp) hp2
theorem snoc_ind {α : Type} {P : List α → Prop} (h0 : P []) (hs : ∀ l x, P l → P (l ++ [x])) (l : List α) : P l := by
 have h : ∀ l : List α, P l.reverse := by
  intro l
  induction l with
  | nil => exact h0
  | cons x l ih => rw [List.reverse_cons]; exact hs _ x ih
 have h2 := h l.reverse
 rwa [List.reverse_reverse] at h2
def build (L : List (List UInt8 × Int)) : Wk := L.foldl (fun k p => k.put p.1 p.2) Wk.nil
theorem build_snoc (L : List (List UInt8 × Int)) (p : List UInt8 × Int) : build (L ++ [p]) = (build L).put p.1 p.2 := by simp [build, List.foldl_append]
theorem build_inv : ∀ L : List (List UInt8 × Int), Inv (build L) := by
 refine snoc_ind Inv.nil ?_
 intro L p ih
 rw [build_snoc]
 exact put_inv ih _ _
theorem build_val (L : List (List UInt8 × Int)) (hp : L.Pairwise fun p q => p.1 ≠ q.1) (u : List UInt8) (r : Int) : val (build L) u = some r ↔ (u, r) ∈ L := by
 revert hp
 refine snoc_ind (P := fun L => L.Pairwise (fun p q => p.1 ≠ q.1) → (val (build L) u = some r ↔ (u, r) ∈ L)) ?_ ?_ L
 ·
  intro _
  simp only [build, List.foldl_nil, List.not_mem_nil, iff_false]
  unfold val
  cases h : reach Wk.nil u 0 with
  | none => simp
  | some a => simp [Wk.nil]
 ·
  intro L p ih hp
  obtain ⟨h1, h2, h3⟩ := List.pairwise_append.1 hp
  rw [build_snoc, val_put (build_inv L)]
  by_cases e : u = p.1
  ·
   rw [if_pos e]
   constructor
   ·
    intro h
    have := Option.some.inj h
    exact List.mem_append_right _ (by rw [List.mem_singleton]; exact Prod.ext e this.symm)
   ·
    intro h
    rcases List.mem_append.1 h with h | h
    ·
     exact absurd e (h3 _ h p (List.mem_singleton.2 rfl))
    ·
     rw [← List.mem_singleton.1 h]
  ·
   rw [if_neg e, ih h1]
   constructor
   ·
    exact fun h => List.mem_append_left _ h
   ·
    intro h
    rcases List.mem_append.1 h with h | h
    ·
     exact h
    ·
     exact absurd (by rw [← List.mem_singleton.1 h]) e
theorem build_match (L : List (List UInt8 × Int)) (hp : L.Pairwise fun p q => ¬ p.1 <+: q.1 ∧ ¬ q.1 <+: p.1) (hn : ∀ p ∈ L, p.1 ≠ []) (s : List UInt8) (r : Int) : matchGo (build L) s 0 = some r ↔ ∃ p ∈ L, p.1 <+: s ∧ p.2 = r := by
 have hp' : L.Pairwise fun p q => p.1 ≠ q.1 := hp.imp fun {p q} h e => h.1 (by rw [e]; exact List.prefix_refl _)
 constructor
 ·
  intro h
  obtain ⟨u, h1, h2, h3⟩ := match_some _ s 0 r h
  exact ⟨(u, r), (build_val L hp' u r).1 h3, h2, rfl⟩
 ·
  rintro ⟨p, hpm, hps, rfl⟩
  have hv := (build_val L hp' p.1 p.2).2 hpm
  cases hm : matchGo (build L) s 0 with
  | none =>
   have h1 := match_none _ s 0 hm p.1 (hn p hpm) hps
   unfold val at hv
   rw [h1] at hv
   cases hv
  | some q =>
   obtain ⟨u, h1, h2, h3⟩ := match_some _ s 0 q hm
   have hu := (build_val L hp' u q).1 h3
   have hsame : (u, q) = p := by
    rcases List.mem_iff_getElem.1 hu with ⟨i, hi, ei⟩
    rcases List.mem_iff_getElem.1 hpm with ⟨j, hj, ej⟩
    have hcmp : u <+: p.1 ∨ p.1 <+: u := List.prefix_or_prefix_of_prefix h2 hps
    rcases Nat.lt_trichotomy i j with h | h | h
    ·
     have := List.pairwise_iff_getElem.1 hp i j hi hj h
     rw [ei, ej] at this
     rcases hcmp with h | h
     ·
      exact absurd h this.1
     ·
      exact absurd h this.2
    ·
     subst h
     rw [← ei, ← ej]
    ·
     have := List.pairwise_iff_getElem.1 hp j i hj hi h
     rw [ei, ej] at this
     rcases hcmp with h | h
     ·
      exact absurd h this.2
     ·
      exact absurd h this.1
   rw [← hsame]
theorem build_n : ∀ L : List (List UInt8 × Int), (build L).n ≤ (L.map fun p => p.1.length).sum := by
 refine snoc_ind (Nat.le_refl _) ?_
 ·
  intro L p ih
  rw [build_snoc]
  have := put_n (build_inv L) p.1 p.2
  simp only [List.map_append, List.map_cons, List.map_nil, List.sum_append, List.sum_cons, List.sum_nil]
  omega
end Go.Proofs.YtbpbniemjjhecaaGreat.GT
