/- A call that hands back memory, within a region, when later operations hang on what it hands back. Conditions: in the theorem. -/
import Derived.Test.YtakjcphknccdnaaDoorPlan
namespace Go.Eng
section
variable {G : Type} {P : Program} {n : Nat} {w0 : Ctx} {ops : Array Oper} {base : Slots} {vals : G → List Value} {writes : List Nat} {mem : List Bool → G → Mem}
theorem Steps.callNL {Γ : Type} (set : Γ → G → G) (f : FuncId) (args : G → Array Value) (Mv : G → Mem) (E' : Γ → G → Mem) (D : List Nat) (d : Option Tmp) (v : Γ → G → Value) {i : Nat}
    (hM : ∀ S γ w, (∀ e : Nat, (aftAt ops.toList i).contains e = true → S e = true) → Sat w0 (mem (writes.map S) γ) w → Sat w0 (Mv γ) w)
    (hpost : ∀ S γ g, S i = false → (∀ e : Nat, (aftAt ops.toList i).contains e = true → S e = true) → (∀ k : Nat, (aftAt ops.toList k).contains i = true → S k = false) → (E' g γ ++ mem (writes.map S) γ).Perm (mem (writes.map (upS S i)) (set g γ)))
    (hv : ∀ γ w, Sat w0 (Mv γ) w → Calls P f (args γ) w (RetM (cx w) (fun g => v g γ) (fun g => E' g γ)))
    (hs : ∀ γ, callAt P ops.toList (allS ops.toList base (vals γ)) i = some (f, args γ, d)) (hval : ∀ γ g, (vals (set g γ))[i]? = some (v g γ))
    (hD : depB ops.toList i D = true) (hmask : ∀ γ g, maskL D 0 (vals (set g γ)) = maskL D 0 (vals γ))
    (h : Steps P w0 ops base vals writes mem (ops.toList.drop (i + 1)) (i + 1)) : Steps P w0 ops base vals writes mem (ops.toList.drop i) i := by
  refine Steps.cons_of (fun o ho S γ w hSi hd hc hMw => ?_) h
  have hd' : ∀ e : Nat, (aftAt ops.toList i).contains e = true → S e = true := fun e he => hd e (by unfold aftAt at he; rw [ho] at he; simpa using he)
  have hsγ := hs γ
  unfold callAt at hsγ
  split at hsγ
  · rename_i s d' hsem
    split at hsγ
    · rename_i f' args' hm
      simp only [Option.some.injEq, Prod.mk.injEq] at hsγ
      obtain ⟨rfl, hargs, rfl⟩ := hsγ
      obtain ⟨o', h1, h2, h3, h4⟩ := semAt_get hsem
      rw [ho] at h1
      simp only [Option.some.injEq] at h1
      subst h1
      rw [h2]
      simp only
      unfold GivesK
      rw [h3, mr_sound (Sat.start w) s _ _ hm (by simp)]
      simp only
      rw [hargs]
      refine (hv γ w (hM S γ w hd' hMw)).mono fun e w' he => ?_
      obtain ⟨g, rfl, hMn⟩ := he
      refine ⟨_, rfl, set g γ, agree hD hSi hc (hmask γ g), hval γ g, ?_⟩
      refine (Sat.call (Mp := []) (Mr := mem (writes.map S) γ) hMw ?_).perm (hpost S γ g hSi hd' (later_of hSi hc))
      exact ⟨⟨hMn.chg.os, hMn.chg.tape, hMn.chg.output, hMn.chg.size, fun k hk _ => hMn.chg.block k hk (fun h => h)⟩, fun e he => ⟨(hMn.own e he).1, fun b hb => by
        rcases (hMn.own e he).2 b hb with h5 | h5
        · exact h5.elim
        · exact .inr h5⟩, hMn.apart⟩
    · cases hsγ
  · cases hsγ
end
end Go.Eng
