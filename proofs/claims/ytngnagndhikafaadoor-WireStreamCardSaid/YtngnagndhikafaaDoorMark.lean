/- The bytes of a constant string as a slice: the mark behind its row, and append onto a full row that is only read. Conditions: in each theorem. -/
import Derived.Test.YtngnagndhikafaaDoorWire
import Derived.Test.YtngnagndhikafaaDoorRows
import Derived.Test.YtngnagndhikafaaDoorThick
import Derived.Test.YtngnagndhikafaaDoorFct
import Derived.Laws.IdiomStrings
namespace Go.Eng
open Go.RowKit (Below)

theorem conv_mark {P : Program} {w0 : Ctx} {M : Mem} {t e b n c : Nat} {C : Array Value} (j : Nat) (ht : P.underlying t = some (.slice e)) (he : P.underlying e = some (.int .u8)) (hj : M[j]? = some (.inl (b, .cells C e (0, 0)))) (w : World) (hM : Sat w0 M w) :
    ∃ (_ : Unit) (w' : World), (sV (convert t t (.slice (some ⟨b, 0, none⟩) n c))).run P w = .ok (.value (.slice (some ⟨b, 0, none⟩) n c)) w' ∧ Sat w0 (M.set j (.inl (b, .cells C e (C.size, C.size + 1)))) w' := by
  have hb := hM.block (List.mem_of_getElem? hj)
  have hsh : w.shape? b = some (e, C.size) := by unfold World.shape?; rw [hb]
  refine ⟨(), w.freeze ⟨b, C.size, none⟩ 1, run_sVw ?_, hM.step hj ⟨rfl, rfl, rfl, by simp [World.freeze], fun k _ hk => ?_, Nat.le_refl _⟩ ?_ (fun b' hb' => .inl hb')⟩
  · simp [convert, run_underlying ht, run_underlying he, markStringish, hsh]
  · have : b ≠ k := fun e => hk e.symm
    simp [World.freeze, Array.getElem?_modify, this]
  · simp [holdsE, World.freeze, Array.getElem?_modify, hb]

theorem rd_mark {w0 : Ctx} {w : World} {M : Mem} {b e sz : Nat} {c : Array Value} {fz : Nat × Nat} (h : Sat w0 M w) (j : Nat) (rows : List (Array Value)) (hm : M[j]? = some (.inl (b, Obj.cells c e fz)))
    (hl : rows.length < 4611686018427387904) (hs : ∀ r ∈ rows, r.size = sz) (hc : c.toList = Go.Eng.flat rows) : Rd w sz (some ⟨b, 0, none⟩) rows := by
  have hb := h.block (List.mem_of_getElem? hm)
  refine ⟨hl, fun i r hi => ⟨hs r (List.mem_of_getElem? hi), _, rfl, heap_lt hb, fun k v hv => ?_⟩⟩
  rw [add_zero_addr, cell_of_row w b _ c e fz hb]
  have : (Go.Eng.flat rows)[i * sz + k]? = some v := flat_at rows hs i r hi k v hv
  rw [← hc, Array.getElem?_toList] at this
  exact this

theorem app_full {α : Type} {c : α → Array Value} {P : Program} {w0 : Ctx} {M : Mem} {t e sz bytes cap2 m : Nat} {a : Addr} {B : Option Addr} (l : List α) (ty : TypeId) (news : List α) (hT : rowType P t e sz bytes = true) (hsz : Nat.blt 0 sz = true)
    (hrA : ∀ w, Sat w0 M w → Rd w sz (some a) (l.map c)) (hr : ∀ w, Sat w0 M w → Rd w sz B (news.map c)) (hm : m = news.length) (h0 : 0 < news.length)
    (hlen : (l.length + news.length) * bytes ≤ 140737488355328) (hb : 0 < bytes) (w : World) (hM : Sat w0 M w) :
    ∃ (g : Option Addr × Nat) (w' : World), (sV (Builtin.append_ #[t, t] ty #[.slice (some a) l.length l.length, .slice B m cap2])).run P w = .ok (.value (.slice g.1 (l ++ news).length g.2)) w' ∧
      Sat w0 (.inr (Own g.1 g.2 e sz ((l ++ news).map c)) :: M) w' := by
  obtain ⟨hu, i, z, hi, hz, hs1, hs2, hs3⟩ := rowType_spec hT
  subst hm
  have hsz0 : 0 < sz := Nat.le_of_ble_eq_true hsz
  have hlt : l.length + news.length ≤ 140737488355328 := Nat.le_trans (Nat.le_mul_of_pos_right _ hb) hlen
  have hRA := hrA w hM
  have hRB := hr w hM
  obtain ⟨b, rfl⟩ : ∃ b, B = some b := by
    have h2 : (news.map c)[0]? = some (c news[0]) := by rw [List.getElem?_map, List.getElem?_eq_getElem h0]; rfl
    obtain ⟨_, ad, h3, _⟩ := hRB.row 0 _ h2
    exact ⟨ad, h3⟩
  have eA : ∀ r ∈ l.map c, r.size = sz := fun r hm => by
    obtain ⟨k, hk⟩ := List.getElem?_of_mem hm
    exact (hRA.row k r hk).1
  have eB : ∀ r ∈ news.map c, r.size = sz := fun r hm => by
    obtain ⟨k, hk⟩ := List.getElem?_of_mem hm
    exact (hRB.row k r hk).1
  have e2 : ∀ r ∈ (l ++ news).map c, r.size = sz := fun r hr => by
    rw [List.map_append] at hr
    rcases List.mem_append.1 hr with hr | hr
    · exact eA r hr
    · exact eB r hr
  have hnc := growslice_fits (old := l.length) (need := l.length + news.length) (bytes := i.bytes)
  have hrun := run_append_grow (P := P) w t ty e i z hu hi hz a l.length l.length (flat (l.map c)) (by rw [flat_length _ eA, hs1, List.length_map]) (hRA.flat hsz0) b news.length cap2 (flat (news.map c)) (by rw [flat_length _ eB, hs1, List.length_map]) (hRB.flat hsz0)
    (by omega) (by omega) (hnc (by omega) (by rw [hs2]; exact hlen))
  have hge := grownCap_ge w (l.length + news.length) l.length e
  have hcm := grownCap_le_maxLen w (l.length + news.length) l.length e (by simp only [maxLen]; omega)
  have hlf : (flat (l.map c) ++ flat (news.map c)).length = (l.length + news.length) * sz := by rw [List.length_append, flat_length _ eA, flat_length _ eB, List.length_map, List.length_map, Nat.add_mul]
  refine ⟨(some ⟨w.heap.size, 0, none⟩, grownCap w (l.length + news.length) l.length e), _, by rw [List.length_append]; exact run_sVw hrun, ?_⟩
  refine hM.push (((Below.refl _ w).drew).alloc (Nat.le_refl _) _) _ ?_ (fun b' hb' => ?_)
  · refine .inr ⟨_, _, rfl, by omega, heap_alloc_new w.drew _, by rw [List.length_map, List.length_append]; exact hge, hcm, ?_, ?_, e2, by rw [List.length_map, List.length_append]; omega⟩
    · simp only [Array.size_append, List.size_toArray, size_zeroCells, hs3]
      rw [← List.length_append, hlf, ← Nat.add_mul]
      congr 1
      omega
    · simp only [Array.toList_append, List.append_assoc]
      rw [← List.append_assoc, List.length_map, List.length_append, ← hlf, List.map_append, flat_append]
      exact List.take_left
  · obtain ⟨_, ad, h2, rfl⟩ := hb'
    simp only [Option.some.injEq] at h2
    subst h2
    exact Nat.le_refl _
end Go.Eng
namespace Go.Sky
open Go Go.Eng Go.Proofs

abbrev SWm (b : Nat) : Ent := .inl (b, .cells #[.int .u8 83, .int .u8 87] 5 (2, 3))
abbrev by0 (n : Int) : Int := wu8 (n.fdiv (2 ^ (min (0 : Int).toNat 64)))

set_option maxRecDepth 100000 in
/-- put's first call, onto the bytes of a constant: one byte. -/
theorem put1_c (b : Nat) (n : Int) (w : World) (hM : Sat ⟨w, feet [SWm b]⟩ [SWm b] w) : Calls Tryd.prog 14 #[.slice (some ⟨b, 0, none⟩) 2 2, .int .u64 n, .int .i64 1] w (RetM (Γ := (List Int) × (Option Addr) × Nat) ⟨w, feet [SWm b]⟩ (fun g => .slice g.2.1 g.1.length g.2.2)
    (fun g => [.inr (Fact (g.1 = ([83, 87] : List Int) ++ be n (1 : Int).toNat)), .inr (Own g.2.1 g.2.2 5 1 (g.1.map ic8))])) := by
  refine calls_introM (w0 := ⟨w, feet [SWm b]⟩) (vs := [.slice (some ⟨b, 0, none⟩) 2 2, .int .u64 n, .int .i64 1]) hM Tryd.func14 rfl Tryd.ntmps14 rfl ?_
  refine TC.weak [(0, .slice (some ⟨b, 0, none⟩) 2 2), (1, .int .u64 n), (2, .int .i64 1)] (by kernel_rfl) ?_
  refine TC.seq ?_
  refine TC.region ?_
  refine TL.run 1 [] [(0, .slice (some ⟨b, 0, none⟩) 2 2), (1, .int .u64 n), (2, .int .i64 1)] rfl ⟨by kernel_rfl, by kernel_rfl⟩ ?_
  refine TL.next rfl ?_
  refine TC.seq ?_
  refine TC.seq ?_
  refine TC.region ?_
  refine TL.run 3 [] [(0, .slice (some ⟨b, 0, none⟩) 2 2), (1, .int .u64 n), (7, .int .i64 0)] rfl ⟨by kernel_rfl, by kernel_rfl⟩ ?_
  refine TL.next rfl ?_
  refine TC.cut (S := Option Addr × Nat) (fun g => [(0, .slice g.1 3 g.2)]) (fun g => [.inr (Own g.1 g.2 5 1 (([83, 87, by0 n] : List Int).map ic8))]) (fun _ => True) ?_ ?_
  · refine TC.block ?_
    refine TC.loop (X := Option (Option Addr × Nat)) (fun x => match x with | none => [(0, .slice (some ⟨b, 0, none⟩) 2 2), (1, .int .u64 n), (7, .int .i64 0)] | some g => [(0, .slice g.1 3 g.2), (1, .int .u64 n), (7, .int .i64 (-1))])
      (fun x => match x with | none => [SWm b] | some g => [.inr (Own g.1 g.2 5 1 (([83, 87, by0 n] : List Int).map ic8)), SWm b]) (fun x => match x with | none => 1 | some _ => 0) (fun _ => True) ?_ none trivial
    rintro (_ | g) _
    · refine TC.seq ?_
      refine TC.seq ?_
      refine TC.region ?_
      refine TL.run 2 [] [(0, .slice (some ⟨b, 0, none⟩) 2 2), (1, .int .u64 n), (7, .int .i64 0), (11, .bool true)] rfl ⟨by kernel_rfl, by kernel_rfl⟩ ?_
      refine TL.next rfl ?_
      refine TC.condT rfl (by kernel_rfl) ?_
      refine TC.skip ?_
      refine TE.next ?_
      refine TC.seq ?_
      refine TC.block ?_
      refine TC.region ?_
      refine TL.run 4 [] [(1, .int .u64 n), (7, .int .i64 0), (14, .slice (some ⟨b, 0, none⟩) 2 2), (15, .int .u64 n), (17, .int .i64 0)] rfl ⟨by kernel_rfl, by kernel_rfl⟩ ?_
      refine TL.val (sV (binOp .shr 44 (.int .u64 n) (.int .i64 0))) (some 18) (.int .u64 (n.fdiv (2 ^ (min (0 : Int).toNat 64)))) [(1, .int .u64 n), (7, .int .i64 0), (14, .slice (some ⟨b, 0, none⟩) 2 2), (18, .int .u64 (n.fdiv (2 ^ (min (0 : Int).toNat 64))))] (fun w hM => run_shr (by decide)) (by kernel_rfl) (by kernel_rfl) ?_
      refine TL.run 6 [] [(1, .int .u64 n), (7, .int .i64 0), (14, .slice (some ⟨b, 0, none⟩) 2 2), (19, .int .u8 (by0 n))] rfl ⟨by kernel_rfl, by kernel_rfl⟩ ?_
      refine TL.write 0 (fun b1 => [(1, .int .u64 n), (7, .int .i64 0), (14, .slice (some ⟨b, 0, none⟩) 2 2), (20, .slice (some ⟨b1, 0, none⟩) 1 1)]) (fun b1 => [.inl (b1, .cells #[.int .u8 (by0 n)] 5 (0, 0)), SWm b]) (fun b1 => ⟨by kernel_rfl, by kernel_rfl⟩) (fun b1 => ?_)
      refine TL.opM (Γ := Option Addr × Nat) (sV (Builtin.append_ #[42, 42] 42 #[.slice (some ⟨b, 0, none⟩) 2 2, .slice (some ⟨b1, 0, none⟩) 1 1])) (some 21) (fun g => .slice g.1 3 g.2) (fun g => [.inr (Own g.1 g.2 5 1 (([83, 87, by0 n] : List Int).map ic8)), .inl (b1, .cells #[.int .u8 (by0 n)] 5 (0, 0)), SWm b])
        (fun g => [(1, .int .u64 n), (7, .int .i64 0), (21, .slice g.1 3 g.2)]) (app_full (c := ic8) (bytes := 1) ([83, 87] : List Int) 42 ([by0 n] : List Int) (by kernel_rfl) rfl (fun w hM => rd_mark hM 1 _ rfl (by decide) (by simp [ic8]) rfl) (fun w hM => Rd.lit hM 0 _ rfl (by kernel_rfl) (by kernel_rfl) (by kernel_rfl)) rfl Nat.zero_lt_one (by show 3 * 1 ≤ 140737488355328; decide) Nat.zero_lt_one) (by kernel_rfl) (fun g => by kernel_rfl) ?_
      rintro ⟨A, c⟩
      refine TL.run 9 [] [(0, .slice A 3 c), (1, .int .u64 n), (7, .int .i64 0)] rfl ⟨by kernel_rfl, by kernel_rfl⟩ ?_
      refine TL.done rfl ?_
      refine TE.normal_block ?_
      refine TE.next ?_
      refine TC.region ?_
      refine TL.run 3 [] [(0, .slice A 3 c), (1, .int .u64 n), (7, .int .i64 (-1))] rfl ⟨by kernel_rfl, by kernel_rfl⟩ ?_
      refine TL.done rfl ?_
      exact TE.again (x := none) (some (A, c)) trivial Nat.zero_lt_one (by kernel_rfl) (.cons_cons _ (.cons _ (.cons_cons _ .slnil)))
    · refine TC.seq ?_
      refine TC.seq ?_
      refine TC.region ?_
      refine TL.run 2 [] [(0, .slice g.1 3 g.2), (1, .int .u64 n), (7, .int .i64 (-1)), (11, .bool false)] rfl ⟨by kernel_rfl, by kernel_rfl⟩ ?_
      refine TL.next rfl ?_
      refine TC.condF rfl (by kernel_rfl) ?_
      refine TC.exit ?_
      refine TE.exit_then (TE.exit_then (TE.exit_same ?_))
      exact TE.cut g trivial (by kernel_rfl) (.cons_cons _ (.cons _ .slnil))
  · rintro g _
    refine TE.next ?_
    refine TC.seq ?_
    refine TC.region ?_
    refine TL.run 2 [] [(6, .slice g.1 3 g.2)] rfl ⟨by kernel_rfl, by kernel_rfl⟩ ?_
    refine TL.next rfl ?_
    refine TC.ret ?_
    exact TE.retM (.inl rfl) (([83, 87, by0 n] : List Int), g.1, g.2) [] (.slice g.1 3 g.2) ⟨by kernel_rfl, by kernel_rfl⟩ rfl (fun _ hM => (hM.sub (.cons_cons _ .slnil)).fact rfl)
end Go.Sky
