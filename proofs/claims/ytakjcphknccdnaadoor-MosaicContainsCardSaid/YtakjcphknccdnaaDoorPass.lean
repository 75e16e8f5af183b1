/- Entries that a call takes over. Conditions: none. -/
import Derived.Test.YtakjcphknccdnaaDoorFct
namespace Go.Eng
theorem Sat.pass {w0 : Ctx} {w : World} {Mp Mr : Mem} (h : Sat w0 (Mp ++ Mr) w) : Sat ⟨w, feet Mp⟩ Mp w :=
  ⟨Chg.refl _ _, fun e he => ⟨(h.own e (List.mem_append_left _ he)).1, fun _ hb => .inl ⟨e, he, hb⟩⟩, (List.pairwise_append.1 h.apart).1⟩
end Go.Eng
