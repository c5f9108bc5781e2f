/-
  A region that draws its order: all its operations but the last one read, or call what draws and lays new blocks alone; the last one waits for all of them. One walk of the order of the text serves every order.
-/
import Derived.Test.YtjbhnjnlpekpoaaDoorAngA
import Derived.StillTail
import Derived.Shelf.SlSortCmp.QuietGrown
namespace Go.Proofs.YtjbhnjnlpekpoaaDoor
open Go.RowKit Go.Sort
set_option linter.unusedVariables false

section
variable {P : Program} {md : Region.Mode} {C : World → Prop}

/-- every operation looks back alone -/
def backB (md : Region.Mode) (ops : Array Oper) : Bool := (List.range ops.size).all fun j => match ops[j]? with | some o => o.after.all fun e => !Region.binds md e || decide (e.on < j) | none => true
def noGuardB (ops : Array Oper) : Bool := ops.all fun o => o.guard.isNone

theorem wanted_of {ops : Array Oper} (hg : noGuardB ops = true) {i : Nat} {o : Oper} (h : ops[i]? = some o) (f : Nat → Option Bool) : Region.wanted o f = true := by
  have hn : o.guard.isNone = true := by
    have := Array.all_eq_true.1 hg i (Array.getElem?_eq_some_iff.1 h).1
    rw [(Array.getElem?_eq_some_iff.1 h).2] at this
    exact this
  have : o.guard = none := by cases hh : o.guard <;> simp_all
  simp [Region.wanted, this]

theorem head_at {ops : Array Oper} {i : Nat} (hi : i < ops.size - 1) : ops.pop[i]? = ops[i]? := by
  rw [Array.getElem?_pop, if_pos (by omega)]

theorem listed_getD {listed : Array Bool} {i : Nat} (h : i < listed.size) (a b : Bool) : listed.getD i a = listed.getD i b := by
  simp [Array.getD, h]

theorem getD_set_true' {listed : Array Bool} {i m : Nat} (hm : listed.size = m) (h : i < m) : (listed.setIfInBounds i true).getD i false = true := by
  simp [Array.getD, hm, h]

theorem set_false {listed : Array Bool} {i t : Nat} (ht : t ≠ i) (h : listed.getD t true = false) : (listed.setIfInBounds i true).getD t true = false := by
  rw [getD_set_ne true (Ne.symm ht)]; exact h

/-- The head's walk, then the last operation. -/
theorem any_tail {ops : Array Oper} {n : Nat} (hn : ops.size = n + 1) (hg : noGuardB ops = true) (hs : Region.sinkB md ops n = true) (hc : Region.chainB md ops n = true) (hb : backB md ops = true)
    {t : Oper} (ht : ops[n]? = some t) {Q : Act → Prop} {Q' : Exit → Act → World → Prop} (hQ : ∀ a w, C w → Q a → t.wp P a w (fun a' w' => Q' .normal a' w') Q' ∨ (t.asks P a w ∧ LetsOut Q')) :
    ∀ (f : Nat) (listed l' : Array Bool) (a : Act) (w : World), HeadInv md ops n listed → listed.size = n + 1 → l'.size = n → (∀ i, i < n → l'.getD i true = listed.getD i true) → C w →
      wpAnyQ P md ops.pop C Q f l' a → wpAny P md ops Q' (f + 1) listed a w := by
  have hback : ∀ (j : Nat) (o : Oper), ops[j]? = some o → ∀ e ∈ o.after, Region.binds md e = true → e.on < j := by
    intro j o hj e he hbd
    have h1 := List.all_eq_true.1 hb j (List.mem_range.2 (Array.getElem?_eq_some_iff.1 hj).1)
    rw [hj] at h1
    have h2 := Array.all_eq_true_iff_forall_mem.1 h1 e he
    simpa [hbd] using h2
  have htl : ∀ (listed : Array Bool), HeadInv md ops n listed → listed.getD n true = false := fun listed inv => inv.tail n (Nat.le_refl _) (by omega)
  -- what may come up in the head may come up in the whole, and the other way round
  have rd : ∀ (listed l' : Array Bool), listed.size = n + 1 → l'.size = n → (∀ i, i < n → l'.getD i true = listed.getD i true) → ∀ i, i < n → (i ∈ Region.ready md ops listed ↔ i ∈ Region.ready md ops.pop l') := by
    intro listed l' h1 h2 h3 i hi
    rw [mem_ready, mem_ready, head_at (by omega), h3 i hi]
    constructor
    · rintro ⟨x, o, ho, y⟩
      refine ⟨x, o, ho, fun e he hbd => ?_⟩
      have hlt := hback i o ho e he hbd
      rw [listed_getD (by omega) false true, h3 _ (by omega), listed_getD (by omega) true false]
      exact y e he hbd
    · rintro ⟨x, o, ho, y⟩
      refine ⟨x, o, ho, fun e he hbd => ?_⟩
      have hlt := hback i o ho e he hbd
      have := y e he hbd
      rw [listed_getD (by omega) false true, h3 _ (by omega), listed_getD (by omega) true false] at this
      exact this
  -- all of the head is listed where nothing of it may come up
  have full : ∀ (listed : Array Bool), listed.size = n + 1 → (∀ i, i < n → i ∉ Region.ready md ops listed) → ∀ i, i < n → listed.getD i true = true := by
    intro listed h1 h2 i
    induction i using Nat.strongRecOn with
    | _ i ih =>
      intro hi
      cases hl : listed.getD i true with
      | true => rfl
      | false =>
        exfalso
        refine h2 i hi (mem_ready.2 ⟨hl, ops[i]'(by omega), by simp [show i < ops.size by omega], fun e he hbd => ?_⟩)
        have hlt := hback i _ (by simp [show i < ops.size by omega]) e he hbd
        rw [listed_getD (by omega) false true]
        exact ih _ hlt (by omega)
  -- the last operation, where it is alone
  have last : ∀ (f : Nat) (listed : Array Bool) (a : Act) (w : World), HeadInv md ops n listed → listed.size = n + 1 → (∀ i, i < n → i ∉ Region.ready md ops listed) → C w → Q a → wpAny P md ops Q' (f + 1) listed a w := by
    intro f listed a w inv h1 h2 hw hq
    have hall := full listed h1 h2
    have hnr : n ∈ Region.ready md ops listed := by
      refine mem_ready.2 ⟨htl listed inv, t, ht, fun e he hbd => ?_⟩
      have hlt := hback n t ht e he hbd
      rw [listed_getD (by omega) false true]
      exact hall _ hlt
    refine ⟨fun h => (by rw [h] at hnr; cases hnr), fun i hi => ?_⟩
    have hi' := mem_ready.1 hi
    have hilt : i < n + 1 := by
      obtain ⟨_, o, ho, _⟩ := hi'
      have := (Array.getElem?_eq_some_iff.1 ho).1; omega
    have hin : i = n := by
      by_cases e : i = n
      · exact e
      · exact absurd hi (h2 i (by omega))
    subst hin
    have none : Region.ready md ops (listed.setIfInBounds i true) = [] := by
      refine List.eq_nil_iff_forall_not_mem.2 fun j hj => ?_
      obtain ⟨x, o, ho, _⟩ := mem_ready.1 hj
      have hjlt := (Array.getElem?_eq_some_iff.1 ho).1
      by_cases e : j = i
      · subst e
        rw [listed_getD (by simp; omega) true false, getD_set_true' h1 (by omega)] at x
        cases x
      · rw [getD_set_ne true (Ne.symm e), hall j (by omega)] at x
        cases x
    unfold wpOp
    rw [ht]
    simp only [wanted_of hg ht, if_true]
    rcases hQ a w hw hq with hq' | hq'
    · refine .inl (Oper.wp_mono (fun a' w' h => ?_) hq')
      cases f with
      | zero => exact ⟨none, h⟩
      | succ f => exact ⟨fun _ => h, fun j hj => by rw [none] at hj; cases hj⟩
    · exact .inr hq'
  intro f
  induction f with
  | zero =>
    intro listed l' a w inv h1 h2 h3 hw h
    refine last 0 listed a w inv h1 (fun i hi hr => ?_) hw h.2
    have := (rd listed l' h1 h2 h3 i hi).1 hr
    rw [h.1] at this; cases this
  | succ f ih =>
    intro listed l' a w inv h1 h2 h3 hw h
    by_cases he : Region.ready md ops.pop l' = []
    · exact last (f + 1) listed a w inv h1 (fun i hi hr => by have := (rd listed l' h1 h2 h3 i hi).1 hr; rw [he] at this; cases this) hw (h.1 he)
    · obtain ⟨k, hk⟩ := List.exists_mem_of_ne_nil _ he
      have hkn : k < n := by
        obtain ⟨_, o, ho, _⟩ := mem_ready.1 hk
        have := (Array.getElem?_eq_some_iff.1 ho).1
        simp at this; omega
      have hkl : listed.getD k true = false := by rw [← h3 k hkn]; exact (mem_ready.1 hk).1
      refine ⟨fun h0 => (by have := (rd listed l' h1 h2 h3 k hkn).2 hk; rw [h0] at this; cases this), fun i hi => ?_⟩
      have hin : i < n := by
        rcases Nat.lt_or_ge i n with e | e
        · exact e
        · exact absurd hi (tail_waits hs hc (by omega) inv _ k rfl hkn hkl i e)
      have hi' := (rd listed l' h1 h2 h3 i hin).1 hi
      have hq := h.2 i hi'
      obtain ⟨o, ho⟩ : ∃ o, ops[i]? = some o := ⟨_, by simp [show i < ops.size by omega]; rfl⟩
      unfold qOp at hq
      rw [head_at (by omega), ho] at hq
      simp only at hq
      rw [if_pos (wanted_of hg ho _)] at hq
      unfold wpOp
      rw [ho]
      simp only [wanted_of hg ho, if_true]
      refine .inl (Oper.wp_of_quiet hw (fun a' w' hw' hk' => ?_) hq)
      refine ih _ (l'.setIfInBounds i true) a' w' (inv.set hi hin) (by simp [h1]) (by simp [h2]) (fun j hj => ?_) hw' hk'
      by_cases e : j = i
      · subst e
        rw [listed_getD (by simp; omega) true false, listed_getD (by simp; omega) true false, getD_set_true' h2 (by omega), getD_set_true' h1 (by omega)]
      · rw [getD_set_ne true (Ne.symm e), getD_set_ne true (Ne.symm e)]; exact h3 j hj

/-- the four looks at the region, together -/
def tailB (ops : Array Oper) (n : Nat) : Bool := decide (ops.size = n + 1) && noGuardB ops && Region.sinkB .any ops n && Region.chainB .any ops n && backB .any ops && Region.lexB .any ops.pop

theorem wpQuiet_mono {ops : Array Oper} {Q Q' : Act → Prop} (h : ∀ a, Q a → Q' a) : ∀ (l : List Oper) (a : Act), wpQuiet P ops C Q l a → wpQuiet P ops C Q' l a
  | [], a, hh => h a hh
  | o :: l, a, hh => by
    unfold wpQuiet at *
    split
    · rename_i hw; rw [if_pos hw] at hh; exact Oper.quiet_mono (fun a' => wpQuiet_mono h l a') hh
    · rename_i hw; rw [if_neg hw] at hh; exact wpQuiet_mono h l _ hh

theorem wp_region_tail {id : Nat} {Q : Exit → Act → World → Prop} {a : Act} {w : World} {l : List Oper} {t : Oper} (hm : P.follows .mixedOrders = true) (n : Nat) (hB : tailB (l ++ [t]).toArray n = true)
    (h : wpQuiet P l.toArray (fun w' => ∃ p : GrownBy, w' = grow (w.drewN p.n) p.os) (fun a' => ∀ w', (∃ p : GrownBy, w' = grow (w.drewN p.n) p.os) → t.wp P a' w' (fun a'' w'' => Q .normal a'' w'') Q ∨ (t.asks P a' w' ∧ LetsOut Q)) l a) :
    (Code.region id (l ++ [t]).toArray true).wp P Q a w := by
  simp only [tailB, Bool.and_eq_true, decide_eq_true_eq] at hB
  obtain ⟨⟨⟨⟨⟨b1, b2⟩, b3⟩, b4⟩, b5⟩, b6⟩ := hB
  have hl : l.length = n := by simpa using b1
  have hpop : (l ++ [t]).toArray.pop = l.toArray := by simp
  rw [hpop] at b6
  simp only [Region.lexB, Bool.and_eq_true] at b6
  refine wp_region_any hm ?_
  rw [b1]
  refine any_tail (C := fun w' => ∃ p : GrownBy, w' = grow (w.drewN p.n) p.os) b1 b2 b3 b4 b5 (t := t) (by simp [hl]) (Q := fun a' => ∀ w', (∃ p : GrownBy, w' = grow (w.drewN p.n) p.os) → t.wp P a' w' (fun a'' w'' => Q .normal a'' w'') Q ∨ (t.asks P a' w' ∧ LetsOut Q))
    (fun a w hw hq => hq w hw) n (Array.replicate (n + 1) false) (Array.replicate n false) a _ ?_ (by simp) (by simp) (fun i hi => ?_) ⟨⟨1, #[]⟩, by rw [grow_empty]; rfl⟩ ?_
  · refine ⟨by simp [b1], fun j oj _ hl _ _ _ => ?_, fun t' h1 h2 => ?_⟩
    · rw [getD_replicate_false] at hl; cases hl
    · simp [Array.getD]; omega
  · simp [Array.getD, hi]; omega
  · rw [hpop]
    have := wpAnyQ_lex (P := P) (C := fun w' => ∃ p : GrownBy, w' = grow (w.drewN p.n) p.os) (md := .any) b6.1 l 0 (Array.replicate l.length false) a (by simp) (by simpa using b6.2) h
    rw [hl] at this
    exact this

/-- The same for a region that is written out: n operations, then the last one, in the form that the walk goes on from. -/
theorem wp_region_tail_lit {id : Nat} {Q : Exit → Act → World → Prop} {a : Act} {w : World} {l : List Oper} (n : Nat) (hm : P.follows .mixedOrders = true) (hB : tailB l.toArray n = true)
    (h : wpQuiet P (l.take n).toArray (fun w' => ∃ p : GrownBy, w' = grow (w.drewN p.n) p.os) (fun a' => ∀ w', (∃ p : GrownBy, w' = grow (w.drewN p.n) p.os) → wpList P l.toArray Q (l.drop n) a' w') (l.take n) a) :
    (Code.region id l.toArray true).wp P Q a w := by
  have hB' := hB
  simp only [tailB, Bool.and_eq_true, decide_eq_true_eq] at hB'
  obtain ⟨⟨⟨⟨⟨b1, b2⟩, _⟩, _⟩, _⟩, _⟩ := hB'
  have hl : l.length = n + 1 := by simpa using b1
  obtain ⟨t, ht⟩ : ∃ t, l.drop n = [t] := by
    have : (l.drop n).length = 1 := by simp; omega
    exact List.length_eq_one_iff.1 this
  have e : l = l.take n ++ [t] := by rw [← ht, List.take_append_drop]
  have hlast : l.toArray[n]? = some t := by
    have : l[n]? = (l.drop n)[0]? := by simp
    simp only [List.getElem?_toArray]
    rw [this, ht]; rfl
  rw [show (Code.region id l.toArray true) = Code.region id (l.take n ++ [t]).toArray true by rw [← e]]
  refine wp_region_tail hm n (by rw [← e]; exact hB) ?_
  rw [ht] at h
  have hw : ∀ a' w', wpList P l.toArray Q [t] a' w' → t.wp P a' w' (fun a'' w'' => Q .normal a'' w'') Q ∨ (t.asks P a' w' ∧ LetsOut Q) := by
    intro a' w' hh
    unfold wpList at hh
    rw [if_pos (wanted_of b2 hlast _)] at hh
    exact hh
  exact wpQuiet_mono (fun a' hq w' hw' => hw a' w' (hq w' hw')) _ _ h

end

/-- a callee that lays new blocks and draws alone, met in a world of the class -/
theorem Q.grown {w w' : World} (h : Q w w') : ∃ q os, w' = grow (w.drewN q) os := by
  refine ⟨w'.drawn - w.drawn, (w'.heap.toList.drop w.heap.size).toArray, ?_⟩
  have hd := h.drawn
  have hb := h.below
  cases w with | mk hp tp dr o out =>
  cases w' with | mk hp' tp' dr' o' out' =>
  have e1 := hb.os
  have e2 := hb.tape
  have e3 := hb.output
  simp only at e1 e2 e3 hd
  subst e1; subst e2; subst e3
  have e4 : hp' = hp ++ (hp'.toList.drop hp.size).toArray := by
    apply Array.ext_getElem?
    intro k
    have hsz := hb.size
    simp only at hsz
    by_cases hk : k < hp.size
    · have := hb.block k hk
      simp only at this
      rw [this, Array.getElem?_append_left hk]
    · rw [Array.getElem?_append_right (by omega)]
      simp
      congr 1; omega
  simp only [grow, World.drewN]
  congr 1
  omega

theorem Q.of_grow (w : World) (n : Nat) (os : Array Obj) : Q w (grow (w.drewN n) os) := by
  refine ⟨⟨rfl, rfl, rfl, ?_, fun k hk => ?_⟩, ?_⟩
  · show w.heap.size ≤ (w.heap ++ os).size
    simp
  · show (w.heap ++ os)[k]? = w.heap[k]?
    rw [Array.getElem?_append_left hk]
  · show w.drawn ≤ w.drawn + n
    omega

theorem Calls.of_Q {P : Program} {f : FuncId} {args : Array Value} {w : World} {n : Nat} {os : Array Obj} {v : Value} (h : Calls P f args (grow (w.drewN n) os) fun e w' => e = .returned v ∧ Q (grow (w.drewN n) os) w') :
    Calls P f args (grow (w.drewN n) os) fun e w'' => e = .returned v ∧ ∃ p : GrownBy, w'' = grow (w.drewN p.n) p.os :=
  Calls.grown_of (h.mono fun _ _ ⟨he, hq⟩ => ⟨he, hq.grown⟩)

end Go.Proofs.YtjbhnjnlpekpoaaDoor
