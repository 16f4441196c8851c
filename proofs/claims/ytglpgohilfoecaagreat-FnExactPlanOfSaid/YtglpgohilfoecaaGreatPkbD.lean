/-
  Texts of this proof, one behind the other: Kinds3, PresP, Pres, Grp2, Grp3, MarkSS, PutM, Push, Low1, Low2.
-/
import Derived.Test.YtglpgohilfoecaaGreatPkbC
import Derived.Test.YtglpgohilfoecaaGreatPkbA
import Derived.Test.YtglpgohilfoecaaGreatPkbB
set_option linter.unusedVariables false
set_option linter.unusedSimpArgs false

/-
  Slices that are nil; a list's kinds.
-/
namespace Go.Proofs.YtglpgohilfoecaaGreat
open Go.RowKit
section
variable {P : Program} {n : Nat} {w0 : World} {fr : Fr} {H : List Ch}
theorem run_eqNilD {t e : TypeId} (hT : P.underlying t = some (.slice e)) (d : Nat) (b : Option Addr) (m c m2 c2 : Nat) (w : World) : (Op.equalIn (d + 1) t (.slice b m c) (.slice none m2 c2)).run P w = .ok b.isNone w := by
  cases b <;> simp [Op.equalIn, run_underlying hT]
theorem run_eqNil {t e : TypeId} (hT : P.underlying t = some (.slice e)) (b : Option Addr) (m c m2 c2 : Nat) (w : World) : (Op.equal t (.slice b m c) (.slice none m2 c2)).run P w = .ok b.isNone w := by
  exact run_eqNilD hT 9999 b m c m2 c2 w
theorem rv_eqNil {x y : Operand} {t t' e : TypeId} [hT : TySlice P t e] {b : Option Addr} {m c m2 c2 : Nat} (hx : opv fr x = some (.slice b m c)) (hy : opv fr y = some (.slice none m2 c2)) : RunsV P n w0 fr H (.binOp .eql t x y t') (.bool b.isNone) := fun a w hr _ _ _ _ _ _ => by
  have h := run_eqNil hT.h b m c m2 c2 w
  simp only [execOp, hr.opv hx, hr.opv hy, Sem.run_bind, eqGuard_at_slice, Sem.run_pure, Result.andThen_ok]
  have e : binOp .eql t (.slice b m c) (.slice none m2 c2) = (do pure (.bool (← Op.equal t (.slice b m c) (.slice none m2 c2)))) := rfl
  rw [e]
  simp only [Sem.run_bind, h, Result.andThen_ok, Sem.run_pure]
end
attribute [local irreducible] Go.wpList Go.Code.wp Go.Exit.then Go.Exit.inBlock Go.bodyPost Go.Calls pE pB G RunsV FnV Fn FnM
set_option maxRecDepth 100000
set_option maxHeartbeats 4000000
theorem clone_any {v : Value} {l : List Int} (w : World) (h : Rd w v 1 (l.map icell)) (hn : l.length ≤ 1048576) : Fn Tryz.prog 200 [v] w (fun v : Value => v.oneCell' = true) (fun v => v) (fun v => [.row v 3 1 (l.map icell)]) := by
  have hln : (l.map icell).length = l.length := by simp
  obtain ⟨ad, cap, e, h1, h2, h3⟩ := h.form
  refine Fn.of (n := 8) Tryz.func200 rfl rfl ?_; refine zcd ?_; refine G.v (rv_eqNil (by rw [e]; rfl) rfl) rfl ?_; refine za1 ?_; refine G.cond rfl (fun hc => ?_) (fun hc => ?_)
  have hl0 : l = [] := by (cases ad with | none => (rcases Nat.eq_zero_or_pos (l.map icell).length with hz | hz; (exact List.eq_nil_of_length_eq_zero zc); (obtain ⟨b, o, hbo⟩ := h3 hz; cases hbo)) | some a => cases hc)
  refine zbc ?_
  first | exact G.retF (.slice none 0 0) rfl rfl rfl rfl (fun w hw => by rw [hl0]; exact (hw.none).nilRow _ _) | (refine G.know (fun w hw => (Rd.owned 0 rfl w hw).one_) (fun hone => G.retF va hone rfl rfl rfl (fun w hw => hw.sublist (by repeat (first | exact List.Sublist.refl _ | refine List.Sublist.cons_cons _ ?_ | refine List.Sublist.cons _ ?_)))))
  refine zbR ?_; refine zaW (fun vl _ => ?_); refine zaC ?_
  first | refine G.op (og_app0 rfl rfl rfl zD rfl rfl zI zI) rfl (fun va _ => ?_) | refine G.op (og_app1 rfl rfl rfl zD rfl rfl zI zI) rfl (fun va _ => ?_)
  refine zcf ?_
  first | exact G.retF (.slice none 0 0) rfl rfl rfl rfl (fun w hw => by rw [hl0]; exact (hw.none).nilRow _ _) | (refine G.know (fun w hw => (Rd.owned 0 rfl w hw).one_) (fun hone => G.retF va hone rfl rfl rfl (fun w hw => hw.sublist (by repeat (first | exact List.Sublist.refl _ | refine List.Sublist.cons_cons _ ?_ | refine List.Sublist.cons _ ?_)))))
theorem kinds_any {v : Value} {l : List Int} (w : World) (h : Rd w v 1 (l.map icell)) (hn : l.length ≤ 12) : Fn Tryz.prog 159 [v] w (fun v : Value => v.oneCell' = true) (fun v => v) (fun v => [.row v 3 1 ((ddM (sortM l)).map icell)]) := by
  refine Fn.of (n := 10) Tryz.func159 rfl rfl ?_; refine zaG ?_; refine zaD ?_; refine G.op (og_callF1 rfl rfl (fun w hh => clone_any w (Rd.stays h _ hh) zc)) rfl ?_; rintro v1 hv1; try dsimp only
  refine zeF ?_
  (first | refine G.frontR0 (v1) rfl ?_ | refine G.frontR1 (v1) rfl ?_ | refine G.frontR2 (v1) rfl ?_ | refine G.frontR3 (v1) rfl ?_ | refine G.frontR4 (v1) rfl ?_ | refine G.frontR5 (v1) rfl ?_ | refine G.frontR6 (v1) rfl ?_ | refine G.frontR7 (v1) rfl ?_ | refine G.frontR8 (v1) rfl ?_ | refine G.frontR9 (v1) rfl ?_ | refine G.frontR10 (v1) rfl ?_ | refine G.frontR11 (v1) rfl ?_ | refine G.frontR12 (v1) rfl ?_ | refine G.frontR13 (v1) rfl ?_ | refine G.frontR14 (v1) rfl ?_ | refine G.frontR15 (v1) rfl ?_); refine G.op (og_callMM1 rfl rfl rfl (sort_any (ks := l) hn)) rfl ?_; rintro ⟨⟩ _; try dsimp only
  refine za1 ?_; refine zaD ?_
  (first | refine G.frontR0 (v1) rfl ?_ | refine G.frontR1 (v1) rfl ?_ | refine G.frontR2 (v1) rfl ?_ | refine G.frontR3 (v1) rfl ?_ | refine G.frontR4 (v1) rfl ?_ | refine G.frontR5 (v1) rfl ?_ | refine G.frontR6 (v1) rfl ?_ | refine G.frontR7 (v1) rfl ?_ | refine G.frontR8 (v1) rfl ?_ | refine G.frontR9 (v1) rfl ?_ | refine G.frontR10 (v1) rfl ?_ | refine G.frontR11 (v1) rfl ?_ | refine G.frontR12 (v1) rfl ?_ | refine G.frontR13 (v1) rfl ?_ | refine G.frontR14 (v1) rfl ?_ | refine G.frontR15 (v1) rfl ?_); refine G.op (og_callMM1 rfl rfl rfl (compact_any (l := sortM l) (by rw [sortM_len]; omega))) rfl ?_; rintro v2 hv2; try dsimp only
  refine zcf ?_
  exact G.retF v2 hv2 rfl rfl rfl (fun w hw => hw.sublist (by repeat (first | exact List.Sublist.refl _ | refine List.Sublist.cons_cons _ ?_ | refine List.Sublist.cons _ ?_)))
end Go.Proofs.YtglpgohilfoecaaGreat

/-
  Kinds, ascending, each once: no program is in sight here.
-/
namespace Go.Proofs.YtglpgohilfoecaaGreat
open Go.RowKit
theorem ddStep_mem {acc : List Int} {y x : Int} : x ∈ ddStep acc y ↔ x ∈ acc ∨ x = y := by
  unfold ddStep
  split
  · rename_i h
    have : y ∈ acc := List.mem_of_getLast? h
    constructor
    · exact .inl
    · rintro (h1 | rfl)
      · exact h1
      · exact this
  · simp
theorem dd_memG : ∀ (l acc : List Int) (x : Int), x ∈ l.foldl ddStep acc ↔ x ∈ acc ∨ x ∈ l
  | [], acc, x => by simp
  | y :: r, acc, x => by rw [List.foldl_cons, dd_memG r, ddStep_mem, List.mem_cons, or_assoc]
theorem dd_mem {l : List Int} {x : Int} : x ∈ ddM l ↔ x ∈ l := by rw [ddM, dd_memG]; simp
theorem last_max {acc : List Int} {a y : Int} (h : acc.Pairwise (· < ·)) (hl : acc.getLast? = some y) (ha : a ∈ acc) : a ≤ y := by
  obtain ⟨ys, rfl⟩ := List.getLast?_eq_some_iff.1 hl
  rcases List.mem_append.1 ha with h1 | h1
  · have := (List.pairwise_append.1 h).2.2 a h1 y zC; omega
  · simp at h1; omega
theorem dd_ascG : ∀ (l acc : List Int), acc.Pairwise (· < ·) → l.Pairwise (· ≤ ·) → (∀ a ∈ acc, ∀ x ∈ l, a ≤ x) → (l.foldl ddStep acc).Pairwise (· < ·)
  | [], acc, h, _, _ => h
  | y :: r, acc, h, hl, hx => by
    rw [List.foldl_cons]
    have hr := List.pairwise_cons.1 hl
    refine dd_ascG r _ ?_ hr.2 (fun a ha x hxr => ?_)
    · unfold ddStep
      split
      · exact h
      · rename_i hn
        refine List.pairwise_append.2 ⟨h, List.pairwise_singleton _ _, fun a ha b hb => ?_⟩
        obtain rfl : b = y := by simpa using hb
        have h1 := hx a ha b (List.mem_cons_self)
        rcases Int.lt_or_eq_of_le h1 with h2 | h2
        · exact h2
        · exfalso
          cases hq : acc.getLast? with
          | none => rw [List.getLast?_eq_none_iff.1 hq] at ha; simp at ha
          | some z =>
            have h3 := last_max h hq ha
            have h4 := hx z (List.mem_of_getLast? hq) b (List.mem_cons_self)
            exact hn (by rw [hq]; congr 1; omega)
    · rcases ddStep_mem.1 ha with h1 | rfl
      · exact hx a h1 x (List.mem_cons_of_mem _ hxr)
      · exact hr.1 x hxr
theorem dd_asc {l : List Int} (h : l.Pairwise (· ≤ ·)) : (ddM l).Pairwise (· < ·) := dd_ascG l [] List.Pairwise.nil h (fun a ha => by simp at ha)
theorem asc_uniq : ∀ {xs ys : List Int}, xs.Pairwise (· < ·) → ys.Pairwise (· < ·) → (∀ x, x ∈ xs ↔ x ∈ ys) → xs = ys
  | [], [], _, _, _ => rfl
  | [], y :: ys, _, _, h => absurd ((h y).2 (List.mem_cons_self)) zC
  | x :: xs, [], _, _, h => absurd ((h x).1 (List.mem_cons_self)) zC
  | x :: xs, y :: ys, h1, h2, h => by
    have p1 := List.pairwise_cons.1 h1
    have p2 := List.pairwise_cons.1 h2
    have e : x = y := by
      rcases List.mem_cons.1 ((h x).1 (List.mem_cons_self)) with e | e
      · exact e
      · rcases List.mem_cons.1 ((h y).2 (List.mem_cons_self)) with e2 | e2
        · exact e2.symm
        · have := p2.1 x e; have := p1.1 y e2; omega
    subst e
    rw [asc_uniq p1.2 p2.2 (fun z => ⟨fun hz => ?_, fun hz => ?_⟩)]
    · rcases List.mem_cons.1 ((h z).1 (List.mem_cons_of_mem _ hz)) with e | e
      · have := p1.1 z hz; omega
      · exact e
    · rcases List.mem_cons.1 ((h z).2 (List.mem_cons_of_mem _ hz)) with e | e
      · have := p2.1 z hz; omega
      · exact e
theorem kinds_pres {r : ReqM} (h : r.items.all itemOkM = true) : ddM (sortM (r.items.map ItemM.cls)) = (presL r 4).map (fun n : Nat => (n : Int)) := by
  refine asc_uniq (dd_asc (sortM_srt _)) ?_ (fun x => ?_)
  · rw [List.pairwise_map]
    exact (List.pairwise_lt_range.sublist (List.filter_sublist)).imp (fun h => by omega)
  · rw [dd_mem, (sortM_perm _).mem_iff]
    simp only [presL, kindHere, List.mem_map, List.mem_filter, List.mem_range, List.any_eq_true, decide_eq_true_eq]
    constructor
    · rintro ⟨b, hb, rfl⟩
      have hc := List.all_eq_true.1 h b hb
      simp only [itemOkM, Bool.and_eq_true, inB, decide_eq_true_eq] at hc
      have h3 := hc.1.2
      exact ⟨b.cls.toNat, ⟨by omega, b, hb, by omega⟩, by omega⟩
    · rintro ⟨n, ⟨_, b, hb, e⟩, rfl⟩
      exact ⟨b, hb, e⟩
end Go.Proofs.YtglpgohilfoecaaGreat

/-
  The kinds that are there: the program's way.
-/
namespace Go.Proofs.YtglpgohilfoecaaGreat
open Go.RowKit
attribute [local irreducible] Go.wpList Go.Code.wp Go.Exit.then Go.Exit.inBlock Go.bodyPost Go.Calls pE pB G RunsV FnV Fn FnM
set_option maxRecDepth 100000
set_option maxHeartbeats 4000000
theorem cls_snoc {l : List ItemM} {k : Nat} {b : ItemM} (hb : l[k]? = some b) : ((l.take k).map ItemM.cls).map icell ++ [[.int .i64 b.cls]] = ((l.take (k + 1)).map ItemM.cls).map icell := by
  simp [List.take_add_one, hb, icell]
theorem present_any {r : ReqM} {pv tv iv : Value} (w : World) (h : Rd w pv 2 (r.pairs.map PairM.cells)) (h2 : Rd w tv 7 (r.types.map TypeM.cells)) (h3 : Rd w iv 7 (r.items.map ItemM.cells)) :
    Fn Tryz.prog 99 [.agg (r.cells pv tv iv).toArray] w (fun v : Value => v.oneCell' = true) (fun v => v) (fun v => [.row v 3 1 ((presM r).map ncell)]) := by
  have hle3 := h3.le_map
  refine Fn.of (n := 25) Tryz.func99 rfl rfl ?_; refine zaJ (fun bk1 _ => ?_); refine zba ?_; refine zbZ ?_
  first | refine zeG ?_ | refine G.v (rv_loadW 1 rfl rfl rfl) rfl ?_ | refine zdP ?_ | refine zeJ ?_ | refine G.v (rv_loadP 0 rfl rfl (.one (.one (.one (.one (.one (.one (.one (.one (.one (.one .nil))))))))))) rfl ?_ | refine G.v (rv_loadP 1 rfl rfl (.one (.one (.one (.one (.one (.one (.one (.one (.one (.one .nil))))))))))) rfl ?_ | refine G.v (rv_loadP 2 rfl rfl (.one (.one (.one (.one (.one (.one (.one (.one (.one (.one .nil))))))))))) rfl ?_ | refine G.v (rv_loadP 3 rfl rfl (.one (.one (.one (.one (.one (.one (.one (.one (.one (.one .nil))))))))))) rfl ?_
  refine zbH (fun _ _ => ?_); refine zcl ?_; refine G.cond rfl (fun hc => ?_) (fun hc => ?_); refine zbc ?_
  first | exact G.retF vk hvk rfl rfl rfl (fun w hw => by rw [take_all zc, kinds_pres hit] at hw; rw [presM, if_pos hcl]; rw [List.map_map] at hw; exact hw.sublist (by repeat (first | exact List.Sublist.refl _ | refine List.Sublist.cons_cons _ ?_ | refine List.Sublist.cons _ ?_))) | exact G.retF (.slice none 0 0) rfl rfl rfl rfl (fun w hw => by rw [presM, if_neg (by first | exact of_decide_eq_false zr | simpa using hc)]; exact (hw.none).nilRow _ _)
  · refine G.skip ?_
    refine G.thenN ?_; refine zaW (fun vl _ => ?_); refine zba ?_; refine zbZ ?_
    first | refine zaS ?_ | refine zbq ?_
    first | refine za6 ?_ | refine zcN ?_ | refine zdp ?_ | refine G.v (rv_load1 3 rfl rfl rfl) rfl ?_
    refine G.v (rv_len rfl zq) rfl ?_; refine zbt ?_
    have hcl : classM r = 0 := (by first | exact of_decide_eq_true zr | simpa using hc)
    have hit := bounds_items (cls_sound hcl)
    have h8 := (bounds_lens (cls_sound hcl)).1
    refine G.loopK (ι := Nat × Value) (ks := [11, 12]) (fun x => [(3, x.2), (13, .int .i64 (x.1 : Int))]) (fun x => [.row x.2 3 1 (((r.items.take x.1).map ItemM.cls).map icell)]) (fun x => x.1 ≤ r.items.length) (fun x => r.items.length - x.1) (0, vl) (.cons rfl (.cons rfl (.nil))) rfl ?_ ?_ ?_
    exact Nat.zero_le _
    exact ⟨rfl, rfl, trivial⟩
    rintro ⟨k, v⟩ hk
    dsimp only at hk ⊢
    have hul : (((r.items.take k).map ItemM.cls).map icell).length = k := (by rw [List.length_map, List.length_map, List.length_take]; omega)
    have hul2 : ((r.items.take k).map ItemM.cls).length = k := (by rw [List.length_map, List.length_take]; omega)
    have hul3 : (r.items.take k).length = k := zab
    by_cases hlt : k < r.items.length
    case' pos => (obtain ⟨b, hb⟩ := get_of_lt hlt; have he := get_map hb ItemM.cells)
    all_goals
     refine zbo ?_; refine G.cond rfl (fun hc => ?_) (fun hc => ?_)
     · all_goals
        replace hc := of_decide_eq_true hc
        simp only [List.length_map] at hc
        try (exfalso; first | contradiction | omega)
        all_goals
         refine zdo ?_
         first | refine G.v (rv_indexH rfl rfl zq rfl zf) rfl ?_ | refine G.v (rv_index rfl rfl zq rfl zf) rfl ?_
         first | refine G.v (rv_loadEW rfl zq zf rfl) rfl ?_ | refine G.v (rv_loadEP rfl zq zf (.one (.one (.one (.one (.one (.one (.one .nil)))))))) rfl ?_
         refine zbn (fun bk5 _ => ?_)
         first | refine zaN (fun _ _ => ?_) | refine zbO (fun _ _ => ?_) | refine G.op0 (og_st2 rfl rfl rfl rfl rfl rfl (.zero (.cons (.cons (.cons (.cons (.cons (.cons (.cons .nil))))))))) (fun _ _ => ?_) | refine G.op0 (og_st3 rfl rfl rfl rfl rfl rfl (.zero (.cons (.cons (.cons (.cons (.cons (.cons (.cons .nil))))))))) (fun _ _ => ?_)
         refine za1 ?_; refine zbi ?_
         first | refine zaS ?_ | refine zbq ?_
         first | refine za6 ?_ | refine zcN ?_ | refine zdp ?_ | refine G.v (rv_load1 3 rfl rfl rfl) rfl ?_
         refine zaT (fun vl _ => ?_)
         first | refine G.op (og_app0 rfl rfl rfl zq rfl rfl zI zI) rfl (fun va _ => ?_) | refine G.op (og_app1 rfl rfl rfl zq rfl rfl zI zI) rfl (fun va _ => ?_) | refine G.op (og_app2 rfl rfl rfl zq rfl rfl zI zI) rfl (fun va _ => ?_) | refine G.op (og_app3 rfl rfl rfl zq rfl rfl zI zI) rfl (fun va _ => ?_)
         refine za0 ?_; refine G.inN (G.thenN (G.region ?_))
         first | refine zeN ?_ | refine zbT ?_
         refine zaC ?_; refine G.done ?_
         first | refine G.backK (k + 1, va) 0 (one_eq (congrArg (fun z => Ch.row va 3 1 z) (cls_snoc hb))) (.cons rfl (.cons rfl (.nil))) ?_ ?_ ?_ | refine G.backK (k + 1, va) 1 (one_eq (congrArg (fun z => Ch.row va 3 1 z) (cls_snoc hb))) (.cons rfl (.cons rfl (.nil))) ?_ ?_ ?_ | refine G.backK (k + 1, va) 2 (one_eq (congrArg (fun z => Ch.row va 3 1 z) (cls_snoc hb))) (.cons rfl (.cons rfl (.nil))) ?_ ?_ ?_ | refine G.backK (k + 1, va) 3 (one_eq (congrArg (fun z => Ch.row va 3 1 z) (cls_snoc hb))) (.cons rfl (.cons rfl (.nil))) ?_ ?_ ?_
         exact ⟨rfl, rfl, trivial⟩
         exact hlt
         dsimp only; omega
     · all_goals
        replace hc := of_decide_eq_false hc
        simp only [List.length_map] at hc
        try (exfalso; first | contradiction | omega)
        all_goals
         refine zaL ?_; refine zaD ?_; refine G.op (og_callF1 rfl rfl (fun w hh => kinds_any (l := (r.items.take k).map ItemM.cls) w (by first | exact Rd.owned 0 rfl _ hh | exact Rd.owned 1 rfl _ hh) zc)) rfl ?_; rintro vk hvk; try dsimp only
         refine zcf ?_
         first | exact G.retF vk hvk rfl rfl rfl (fun w hw => by rw [take_all zc, kinds_pres hit] at hw; rw [presM, if_pos hcl]; rw [List.map_map] at hw; exact hw.sublist (by repeat (first | exact List.Sublist.refl _ | refine List.Sublist.cons_cons _ ?_ | refine List.Sublist.cons _ ?_))) | exact G.retF (.slice none 0 0) rfl rfl rfl rfl (fun w hw => by rw [presM, if_neg (by first | exact of_decide_eq_false zr | simpa using hc)]; exact (hw.none).nilRow _ _)
theorem indexInt_any {g : Nat} [FnOk Tryz.prog g] {cap : List Value} {v : Value} {l : List Int} {p : Int → Bool} (w : World) (h : Rd w v 1 (l.map icell)) (hf : ∀ (w' : World) (k : Nat) (b : Int), HeapOk w w' [] → l[k]? = some b → FnV Tryz.prog g ([.int .i64 b] ++ cap) w' (.bool (p b))) :
    FnV Tryz.prog 218 [v, .func (.func g) #[] cap.toArray] w (.int .i64 (idxM p l)) := by
  have hle := h.le_map
  have hln : (l.map icell).length = l.length := by simp
  refine FnV.of (n := 19) Tryz.func218 rfl rfl ?_; refine zcd ?_; refine G.v (rv_len rfl zH) rfl ?_; refine zbt ?_; refine G.loopK (ι := Nat) (ks := [0, 1, 7]) (fun k => [(8, .int .i64 k)]) (fun _ => []) (fun k => k ≤ l.length ∧ (l.take k).any p = false) (fun k => l.length - k) 0 (.cons rfl (.cons rfl (.cons rfl (.nil)))) rfl ?_ ?_ ?_
  exact ⟨Nat.zero_le _, rfl⟩
  exact ⟨rfl, trivial⟩
  rintro k ⟨hk, ht⟩
  by_cases hlt : k < l.length
  case' pos => (obtain ⟨b, hb⟩ := get_of_lt hlt; have he := get_map hb icell)
  all_goals
   refine zbo ?_; refine G.cond rfl (fun hc => ?_) (fun hc => ?_)
   · all_goals
      replace hc := of_decide_eq_true hc
      try (exfalso; first | contradiction | omega)
      all_goals
       refine zea ?_; refine zaB ?_; refine zca ?_
       first | refine G.v (rv_indexH rfl rfl zH rfl zf) rfl ?_ | refine G.v (rv_index rfl rfl zH rfl zf) rfl ?_
       refine G.v (rv_loadE rfl zH zf rfl) rfl ?_; refine G.op (og_callV rfl rfl (fun w hh => hf w k b hh.none hb)) rfl (fun _ _ => ?_); refine za1 ?_; refine G.cond rfl (fun hc => ?_) (fun hc => ?_)
       · all_goals
          all_goals
           refine za9 ?_; refine zbg ?_
           first | exact G.retFV rfl rfl (congrArg (Value.int .i64) (idx_at ht hb hc).symm) | exact G.retFV rfl rfl (congrArg (Value.int .i64) (idx_none ht hlt).symm)
       · all_goals
          all_goals
           refine G.skip (G.inN (G.thenN (G.region ?_)))
           first | refine zeN ?_ | refine zbT ?_
           refine zaC ?_; refine G.done ?_
           first | refine G.backK (k + 1) 0 rfl (.cons rfl (.cons rfl (.cons rfl (.nil)))) ?_ ?_ ?_
           exact ⟨rfl, trivial⟩
           exact ⟨hlt, any_next ht hb hc⟩
           omega
   · all_goals
      replace hc := of_decide_eq_false hc
      try (exfalso; first | contradiction | omega)
      all_goals
       refine zd0 ?_
       first | exact G.retFV rfl rfl (congrArg (Value.int .i64) (idx_at ht hb hc).symm) | exact G.retFV rfl rfl (congrArg (Value.int .i64) (idx_none ht hlt).symm)
theorem containsInt_any {g : Nat} [FnOk Tryz.prog g] {cap : List Value} {v : Value} {l : List Int} {p : Int → Bool} (w : World) (h : Rd w v 1 (l.map icell)) (hf : ∀ (w' : World) (k : Nat) (b : Int), HeapOk w w' [] → l[k]? = some b → FnV Tryz.prog g ([.int .i64 b] ++ cap) w' (.bool (p b))) :
    FnV Tryz.prog 162 [v, .func (.func g) #[] cap.toArray] w (.bool (l.any p)) := by
  refine FnV.of (n := 9) Tryz.func162 rfl rfl ?_; refine zaG ?_; refine zaM ?_; refine G.op (og_callV rfl rfl (fun w hh => indexInt_any w (Rd.stays h _ hh) (fun w' k b hw hb => hf w' k b ((hh.call hw).none) hb))) rfl (fun _ _ => ?_); refine zd6 ?_; refine zcf ?_
  exact G.retFV rfl rfl (congrArg Value.bool (idx_any p l))
theorem groups11_any {ps : List PairM} {pv : Value} (k x : Int) {q1 q2 : Nat} (w : World) (h : Rd w pv 2 (ps.map PairM.cells)) (h1 : Rd w (.slice (some ⟨q1, 0, none⟩) 1 1) 1 [[pv]]) (h2 : Rd w (.slice (some ⟨q2, 0, none⟩) 1 1) 1 [[.int .i64 k]]) : FnV Tryz.prog 163 [.int .i64 x, pB q1 0, pB q2 0] w (.bool (!mutM ps k x)) := by
  rw [pB_eq_pE q1 1, pB_eq_pE q2 1]
  refine FnV.of (n := 10) Tryz.func163 rfl rfl ?_; refine zaG ?_; refine zbZ ?_
  first | refine za6 ?_ | refine G.v (rv_loadE rfl (by first | exact Rd.stays zf | exact Rd.owned 0 rfl) rfl rfl) rfl ?_
  first | refine za6 ?_ | refine G.v (rv_loadE rfl (by first | exact Rd.stays zf | exact Rd.owned 0 rfl) rfl rfl) rfl ?_
  refine zaC ?_; refine G.op (og_callV rfl rfl (fun w hh => mutual_any _ _ w (Rd.stays h _ hh))) rfl (fun _ _ => ?_); refine zbr ?_; refine zcf ?_
  exact G.retFV rfl rfl rfl
theorem groups1_any {ps : List PairM} {pv u : Value} {l : List Int} (k : Int) {q1 q2 : Nat} (w : World) (h : Rd w pv 2 (ps.map PairM.cells)) (h3 : Rd w u 1 (l.map icell)) (h1 : Rd w (.slice (some ⟨q1, 0, none⟩) 1 1) 1 [[pv]]) (h2 : Rd w (.slice (some ⟨q2, 0, none⟩) 1 1) 1 [[.int .i64 k]]) : FnV Tryz.prog 161 [u, pB q1 0, pB q2 0] w (.bool (joinsM ps l k)) := by
  refine FnV.of (n := 9) Tryz.func161 rfl rfl ?_; refine zaG ?_; refine zaD ?_; refine zdq ?_; refine G.op (og_callV rfl rfl (fun w hh => (containsInt_any (l := l) w (Rd.stays h3 _ hh) (fun w' j x hw hb => groups11_any (ps := ps) (pv := pv) k x w' (Rd.stays (Rd.stays h _ hh) w' hw) (Rd.stays (Rd.stays h1 _ hh) w' hw) (Rd.stays (Rd.stays h2 _ hh) w' hw))).mono (congrArg Value.bool any_not))) rfl (fun _ _ => ?_); refine zbr ?_; refine zcf ?_; refine G.retFV rfl rfl (congrArg Value.bool ?_); rw [joinsM, Bool.not_not]
def gcell (x : List Int × Value) : List Value := [x.2]
theorem indexTbl_any {g : Nat} [FnOk Tryz.prog g] {cap : List Value} {v : Value} {l : List (List Int × Value)} {p : List Int → Bool} (w : World) (h : Rd w v 1 (l.map gcell)) (hf : ∀ (w' : World) (k : Nat) (b : List Int × Value), HeapOk w w' [] → l[k]? = some b → FnV Tryz.prog g ([b.2] ++ cap) w' (.bool (p b.1))) :
    FnV Tryz.prog 160 [v, .func (.func g) #[] cap.toArray] w (.int .i64 (idxM (fun b => p b.1) l)) := by
  have hle := h.le_map
  have hln : (l.map gcell).length = l.length := by simp
  refine FnV.of (n := 19) Tryz.func160 rfl rfl ?_; refine zcd ?_; refine G.v (rv_len rfl zH) rfl ?_; refine zbt ?_; refine G.loopK (ι := Nat) (ks := [0, 1, 7]) (fun k => [(8, .int .i64 k)]) (fun _ => []) (fun k => k ≤ l.length ∧ (l.take k).any (fun b => p b.1) = false) (fun k => l.length - k) 0 (.cons rfl (.cons rfl (.cons rfl (.nil)))) rfl ?_ ?_ ?_
  exact ⟨Nat.zero_le _, rfl⟩
  exact ⟨rfl, trivial⟩
  rintro k ⟨hk, ht⟩
  by_cases hlt : k < l.length
  case' pos => (obtain ⟨b, hb⟩ := get_of_lt hlt; have he := get_map hb gcell)
  all_goals
   refine zbo ?_; refine G.cond rfl (fun hc => ?_) (fun hc => ?_)
   · all_goals
      replace hc := of_decide_eq_true hc
      try (exfalso; first | contradiction | omega)
      all_goals
       refine zea ?_; refine zaB ?_; refine zca ?_
       first | refine G.v (rv_indexH rfl rfl zH rfl zf) rfl ?_ | refine G.v (rv_index rfl rfl zH rfl zf) rfl ?_
       refine G.v (rv_loadE rfl zH zf rfl) rfl ?_; refine G.op (og_callV rfl rfl (fun w hh => hf w k b hh.none hb)) rfl (fun _ _ => ?_); refine za1 ?_; refine G.cond rfl (fun hc => ?_) (fun hc => ?_)
       · all_goals
          all_goals
           refine za9 ?_; refine zbg ?_
           first | exact G.retFV rfl rfl (congrArg (Value.int .i64) (idx_at ht hb hc).symm) | exact G.retFV rfl rfl (congrArg (Value.int .i64) (idx_none ht hlt).symm)
       · all_goals
          all_goals
           refine G.skip (G.inN (G.thenN (G.region ?_)))
           first | refine zeN ?_ | refine zbT ?_
           refine zaC ?_; refine G.done ?_
           first | refine G.backK (k + 1) 0 rfl (.cons rfl (.cons rfl (.cons rfl (.nil)))) ?_ ?_ ?_
           exact ⟨rfl, trivial⟩
           exact ⟨hlt, any_next ht hb hc⟩
           omega
   · all_goals
      replace hc := of_decide_eq_false hc
      try (exfalso; first | contradiction | omega)
      all_goals
       refine zd0 ?_
       first | exact G.retFV rfl rfl (congrArg (Value.int .i64) (idx_at ht hb hc).symm) | exact G.retFV rfl rfl (congrArg (Value.int .i64) (idx_none ht hlt).symm)
end Go.Proofs.YtglpgohilfoecaaGreat

/-
  A table of numbers that is marked by numbers that go up.
-/
namespace Go.Proofs.YtglpgohilfoecaaGreat
open Go.RowKit
attribute [local irreducible] Go.wpList Go.Code.wp Go.Exit.then Go.Exit.inBlock Go.bodyPost Go.Calls pE pB G RunsV FnV Fn FnM
set_option maxRecDepth 100000
set_option maxHeartbeats 1000000
def mkSS (k : Int) (t : List Int × Value) : List Int × Value := (markG mkI cntI k t.1, t.2)
def cntSS (t : List Int × Value) : Nat := cntG cntI t.1
end Go.Proofs.YtglpgohilfoecaaGreat

/-
  Tables of groups: what is put where. No program is in sight here.
-/
namespace Go.Proofs.YtglpgohilfoecaaGreat
open Go.RowKit
/-- x is put into the first list that p holds of, or into a list of its own. -/
def putM (p : List Int → Bool) : List (List Int) → Int → List (List Int)
  | [], x => [[x]]
  | g :: r, x => if p g then (g ++ [x]) :: r else g :: putM p r x
theorem put_no {p : List Int → Bool} {x : Int} : ∀ {l : List (List Int)}, l.any p = false → putM p l x = l ++ [[x]]
  | [], _ => rfl
  | g :: r, h => by
    simp only [List.any_cons, Bool.or_eq_false_iff] at h
    rw [putM, h.1, put_no h.2]; simp
theorem put_at {p : List Int → Bool} {x : Int} : ∀ {l : List (List Int)} {k : Nat} {b : List Int}, (l.take k).any p = false → l[k]? = some b → p b = true → putM p l x = l.set k (b ++ [x])
  | [], k, b, _, h, _ => by simp at h
  | g :: r, 0, b, _, h, hb => by
    simp at h; subst h; rw [putM, if_pos hb]; rfl
  | g :: r, k + 1, b, h0, h, hb => by
    simp only [List.take_succ_cons, List.any_cons, Bool.or_eq_false_iff] at h0
    simp only [List.getElem?_cons_succ] at h
    rw [putM, h0.1, put_at h0.2 h hb]; simp
theorem idx_cases {α : Type} (p : α → Bool) : ∀ l : List α, (idxM p l = -1 ∧ l.any p = false) ∨ ∃ (k : Nat) (b : α), idxM p l = (k : Int) ∧ l[k]? = some b ∧ p b = true ∧ (l.take k).any p = false
  | [] => .inl ⟨rfl, rfl⟩
  | x :: r => by
    by_cases hx : p x = true
    · exact .inr ⟨0, x, by rw [idxM, if_pos hx]; rfl, rfl, hx, rfl⟩
    · have hx2 : p x = false := by simpa using hx
      rcases idx_cases p r with ⟨h1, h2⟩ | ⟨k, b, h1, h2, h3, h4⟩
      · exact .inl ⟨by rw [idxM, if_neg hx, if_pos zc], by rw [List.any_cons, hx2, h2]; rfl⟩
      · exact .inr ⟨k + 1, b, by rw [idxM, if_neg hx, if_neg zc, h1]; omega, h2, h3, by rw [List.take_succ_cons, List.any_cons, hx2, h4]; rfl⟩
/-- The first place from i on that p holds of. -/
def idxFrom {α : Type} (p : α → Bool) (l : List α) (i : Nat) : Int := if idxM p (l.drop i) < 0 then -1 else idxM p (l.drop i) + i
theorem from_end {α : Type} {p : α → Bool} {l : List α} : idxFrom p l l.length = -1 := by
  rw [idxFrom, List.drop_length]; rfl
theorem from_yes {α : Type} {p : α → Bool} {l : List α} {i : Nat} {b : α} (hb : l[i]? = some b) (h : p b = true) : (i : Int) = idxFrom p l i := by
  obtain ⟨h1, rfl⟩ := List.getElem?_eq_some_iff.1 hb
  rw [idxFrom, List.drop_eq_getElem_cons h1, idxM, if_pos h]; simp
theorem from_no {α : Type} {p : α → Bool} {l : List α} {i : Nat} {b : α} (hb : l[i]? = some b) (h : p b = false) : idxFrom p l (i + 1) = idxFrom p l i := by
  obtain ⟨h1, rfl⟩ := List.getElem?_eq_some_iff.1 hb
  have e : idxM p (l.drop i) = if idxM p (l.drop (i + 1)) < 0 then -1 else idxM p (l.drop (i + 1)) + 1 := by
    rw [List.drop_eq_getElem_cons h1, idxM, if_neg (by rw [h]; decide)]
  unfold idxFrom
  rw [e]
  have hg := idx_ge p (l.drop (i + 1))
  split <;> split <;> omega
theorem from_zero {α : Type} {p : α → Bool} {l : List α} : idxFrom p l 0 = idxM p l := by
  rw [idxFrom, List.drop_zero]
  have := idx_ge p l
  split
  · omega
  · simp
def putAll (p : List Int → Int → Bool) (l : List Int) : List (List Int) := l.foldl (fun out x => putM (fun g => p g x) out x) []
theorem putAll_next {p : List Int → Int → Bool} {l : List Int} {k : Nat} {x : Int} (h : l[k]? = some x) : putAll p (l.take (k + 1)) = putM (fun g => p g x) (putAll p (l.take k)) x := foldl_take_succ h _ []
theorem put_sum (p : List Int → Bool) (x : Int) : ∀ l : List (List Int), ((putM p l x).map List.length).sum = (l.map List.length).sum + 1
  | [] => rfl
  | g :: r => by
    have := put_sum p x r
    rw [putM]; split
    · simp only [List.map_cons, List.sum_cons, List.length_append, List.length_singleton]; omega
    · simp only [List.map_cons, List.sum_cons]; omega
theorem put_lenle (p : List Int → Bool) (x : Int) : ∀ l : List (List Int), (putM p l x).length ≤ l.length + 1
  | [] => Nat.le_refl _
  | g :: r => by
    have := put_lenle p x r
    rw [putM]; split
    · simp only [List.length_cons]; omega
    · simp only [List.length_cons]; omega
theorem putAll_sumG (p : List Int → Int → Bool) : ∀ (l : List Int) (out : List (List Int)), ((l.foldl (fun out x => putM (fun g => p g x) out x) out).map List.length).sum = (out.map List.length).sum + l.length
  | [], out => by simp
  | x :: r, out => by
    rw [List.foldl_cons, putAll_sumG p r, put_sum, List.length_cons]; omega
theorem putAll_lenG (p : List Int → Int → Bool) : ∀ (l : List Int) (out : List (List Int)), (l.foldl (fun out x => putM (fun g => p g x) out x) out).length ≤ out.length + l.length
  | [], out => by simp
  | x :: r, out => by
    have h1 := putAll_lenG p r (putM (fun g => p g x) out x)
    have h2 := put_lenle (fun g => p g x) x out
    rw [List.foldl_cons, List.length_cons]; omega
theorem putAll_sum (p : List Int → Int → Bool) (l : List Int) : ((putAll p l).map List.length).sum = l.length := by rw [putAll, putAll_sumG]; simp
theorem putAll_len (p : List Int → Int → Bool) (l : List Int) : (putAll p l).length ≤ l.length := by have := putAll_lenG p l []; simpa [putAll] using this
theorem len_le_sum : ∀ {l : List (List Int)} {g : List Int}, g ∈ l → g.length ≤ (l.map List.length).sum
  | [], g, h => by simp at h
  | a :: r, g, h => by
    rw [List.map_cons, List.sum_cons]
    rcases List.mem_cons.1 h with rfl | h
    · omega
    · have := len_le_sum h; omega
theorem putAll_at {p : List Int → Int → Bool} {l : List Int} {q : Nat} {g : List Int} (h : (putAll p l)[q]? = some g) : g.length ≤ l.length := by
  have := len_le_sum (List.mem_of_getElem? h); rwa [putAll_sum] at this
/-- The groups of kinds: each kind is put into the first group that it may lie beside. -/
def groupsM (ps : List PairM) (l : List Int) : List (List Int) := putAll (fun g x => joinsM ps g x) l
/-- The kinds that are there, as numbers. -/
def presI (r : ReqM) : List Int := (presM r).map (fun n : Nat => (n : Int))
theorem presI_cells (r : ReqM) : (presM r).map ncell = (presI r).map icell := by rw [presI, List.map_map]; rfl
theorem presI_asc (r : ReqM) : (presI r).Pairwise (· < ·) := by
  rw [presI, presM]
  split
  · rw [List.pairwise_map]
    exact (List.pairwise_lt_range.sublist (List.filter_sublist)).imp (fun h => by omega)
  · exact List.Pairwise.nil
theorem presI_len (r : ReqM) : (presI r).length ≤ 4 := by
  rw [presI, List.length_map, presM]
  split
  · exact pres_len r 4
  · simp
theorem presI_in {r : ReqM} {x : Int} (h : x ∈ presI r) : 0 ≤ x ∧ x ≤ 3 := by
  rw [presI, presM] at h
  split at h
  · obtain ⟨n, hn, rfl⟩ := List.mem_map.1 h
    have := List.mem_range.1 (List.mem_filter.1 hn).1
    omega
  · simp at h
theorem dd_sorted {l : List Int} (h : l.Pairwise (· < ·)) : ddM (sortM l) = l :=
  asc_uniq (dd_asc (sortM_srt _)) h (fun x => by rw [dd_mem, (sortM_perm _).mem_iff])
/-- The kinds below n that are in a list. -/
def below (l : List Int) (n : Nat) : List Int := ((List.range n).map (fun n : Nat => (n : Int))).filter (hasM l)
theorem below_next {l : List Int} {n : Nat} : below l (n + 1) = below l n ++ (if hasM l (n : Int) then [(n : Int)] else []) := by
  rw [below, List.range_succ, List.map_append, List.filter_append]
  cases h : hasM l (n : Int) <;> simp [below, h]
theorem hasM_iff {l : List Int} {x : Int} : hasM l x = true ↔ x ∈ l := by simp [hasM]
theorem below_all {l : List Int} (h : l.Pairwise (· < ·)) (hb : ∀ x ∈ l, 0 ≤ x ∧ x ≤ 3) : below l 4 = l := by
  refine asc_uniq ?_ h (fun x => ?_)
  · refine List.Pairwise.sublist List.filter_sublist ?_
    rw [List.pairwise_map]
    exact List.pairwise_lt_range.imp (fun h => by omega)
  · simp only [below, List.mem_filter, List.mem_map, List.mem_range, hasM_iff]
    constructor
    · rintro ⟨_, h2⟩; exact h2
    · intro hx
      have := hb x hx
      exact ⟨⟨x.toNat, by omega, by omega⟩, hx⟩
theorem below_len (l : List Int) (n : Nat) : (below l n).length ≤ n := by
  have := List.length_filter_le (hasM l) ((List.range n).map (fun n : Nat => (n : Int)))
  rwa [List.length_map, List.length_range] at this
theorem putAll_snoc {p : List Int → Int → Bool} {l : List Int} {x : Int} : putAll p (l ++ [x]) = putM (fun g => p g x) (putAll p l) x := by
  rw [putAll, List.foldl_append]; rfl
theorem G.pushRow {n : Nat} {w0 : World} {fr : Fr} {H F : List Ch} {t : TypeId} {s : Nat} {v : Value} {es : List (List Value)} {rs : List (Value × List (List Value))} (rs' : List (Value × List (List Value))) {K : Act → World → Prop} (e : rs ++ [(v, es)] = rs') (hH : H = .row v t s es :: .grp t s rs :: F) (h : G n w0 fr (.grp t s rs' :: F) K) : G n w0 fr H K :=
  G.heap (fun w hh => by subst e hH; exact hh.push) h
theorem G.keep2 {n : Nat} {w0 : World} {fr : Fr} {H : List Ch} (m : Nat) {c1 c2 : Ch} {J : List Ch} {K : Act → World → Prop} (hH : H = c1 :: c2 :: J) (h : G n w0 fr (c1 :: c2 :: J.drop m) K) : G n w0 fr H K := G.heap (fun w hh => by subst hH; exact hh.sublist (List.Sublist.cons_cons _ (List.Sublist.cons_cons _ (List.drop_sublist m J)))) h
theorem nil_or_snoc {α : Type} (l : List α) : l = [] ∨ ∃ tp t, l = tp ++ [t] := by
  rcases List.eq_nil_or_concat l with h | ⟨a, b, h⟩
  · exact .inl h
  · exact .inr ⟨a, b, by rw [h, List.concat_eq_append]⟩
theorem G.keep1 {n : Nat} {w0 : World} {fr : Fr} {H : List Ch} (m : Nat) {c1 : Ch} {J : List Ch} {K : Act → World → Prop} (hH : H = c1 :: J) (h : G n w0 fr (c1 :: J.drop m) K) : G n w0 fr H K := G.heap (fun w hh => by subst hH; exact hh.sublist (List.Sublist.cons_cons _ (List.drop_sublist m J))) h
section
variable {P : Program} {n : Nat} {w0 : World} {fr : Fr} {H : List Ch} {x y : Operand} {t t' : TypeId} {p q : Int}
end
attribute [local irreducible] Go.wpList Go.Code.wp Go.Exit.then Go.Exit.inBlock Go.bodyPost Go.Calls pE pB G RunsV FnV Fn FnM
set_option maxRecDepth 100000
set_option maxHeartbeats 4000000
def vI (x : ItemM) : Int := volM x.w x.h x.d
theorem vol_in {w h d : Int} (hw : 1 ≤ w ∧ w ≤ 2000) (hh : 1 ≤ h ∧ h ≤ 2000) (hd : 1 ≤ d ∧ d ≤ 2000) : 1 ≤ volM w h d ∧ volM w h d ≤ 8000000000 := by
  have e : (inB w 0 2000 && inB h 0 2000 && inB d 0 2000) = true := by simp only [inB, Bool.and_eq_true, decide_eq_true_eq]; omega
  have a1 : 1 ≤ w * h := by have := Int.mul_le_mul hw.1 hh.1 zc zc; omega
  have a2 : w * h ≤ 4000000 := by have := Int.mul_le_mul hw.2 hh.2 zc zc; omega
  have b1 : 1 ≤ w * h * d := by have := Int.mul_le_mul a1 hd.1 zc zc; omega
  have b2 : w * h * d ≤ 8000000000 := by have := Int.mul_le_mul a2 hd.2 zc zc; omega
  have e2 : IntKind.i64.wrap (w * h) = w * h := wrap64_id zc zc
  rw [volM, if_pos e, e2, wrap64_id zc zc]
  exact ⟨b1, b2⟩
theorem item_vol {x : ItemM} (h : itemOkM x = true) : 1 ≤ vI x ∧ vI x ≤ 8000000000 := by
  simp only [itemOkM, Bool.and_eq_true, inB, decide_eq_true_eq] at h
  exact vol_in h.1.1.1.1.1.2 h.1.1.1.1.2 h.1.1.1.2
def mst (r : ReqM) : TypeM := (typeAt r r.master).1
def vOf (r : ReqM) (u : Int) : Int := match itemAt r u with | some x => vI x | none => 0
def volUS (r : ReqM) (us : List Int) : Int := (us.map (vOf r)).sum
theorem vOf_in (r : ReqM) (u : Int) : 0 ≤ vOf r u ∧ vOf r u ≤ 8000000000 := by
  unfold vOf
  cases h : itemAt r u with
  | none => simp
  | some x => have := item_vol (itemAt_ok h); dsimp only; omega
theorem volUS_take {r : ReqM} {us : List Int} {k : Nat} {u : Int} (hb : us[k]? = some u) : volUS r (us.take (k + 1)) = volUS r (us.take k) + vOf r u := by
  simp [volUS, List.take_add_one, hb, List.sum_append]
theorem volUS_in (r : ReqM) : ∀ us : List Int, 0 ≤ volUS r us ∧ volUS r us ≤ 8000000000 * us.length
  | [] => by simp [volUS]
  | u :: us => by
    have h1 := volUS_in r us
    have h2 := vOf_in r u
    simp only [volUS, List.map_cons, List.sum_cons, List.length_cons] at *
    omega
def vSum (l : List ItemM) : Int := (l.map vI).sum
theorem vSum_take {l : List ItemM} {k : Nat} {b : ItemM} (h : l[k]? = some b) : vSum (l.take (k + 1)) = vSum (l.take k) + vI b := by
  simp [vSum, List.take_add_one, h, List.sum_append]
theorem vSum_items (r : ReqM) : ∀ us : List Int, vSum (itemsM r us) = volUS r us
  | [] => rfl
  | u :: us => by
    have h1 := vSum_items r us
    simp only [itemsM, volUS, vSum, List.filterMap_cons, List.map_cons, List.sum_cons] at *
    cases h : itemAt r u with
    | none => simp only [vOf, h]; omega
    | some x => simp only [vOf, h, List.map_cons, List.sum_cons]; omega
theorem vSum_in : ∀ {l : List ItemM}, (∀ x ∈ l, itemOkM x = true) → 0 ≤ vSum l ∧ vSum l ≤ 8000000000 * l.length
  | [], _ => by simp [vSum]
  | x :: l, h => by
    have h1 := vSum_in (fun y hy => h y (List.mem_cons_of_mem _ hy))
    have h2 := item_vol (h x (List.mem_cons_self))
    simp only [vSum, List.map_cons, List.sum_cons, List.length_cons] at *
    omega
def upByM (a b : Int) : Int := (a + b - 1).tdiv b
def lowVolM (r : ReqM) (us : List Int) : Int := if classM r = 0 then upByM (volUS r us) (volM (mst r).w (mst r).h (mst r).d) else 0
def lowGramM (r : ReqM) (us : List Int) : Int := if classM r = 0 then upByM (gramM r us) (mst r).g else 0
def wideP (r : ReqM) (x : ItemM) : Bool := decide (2 * vI x > volM (mst r).w (mst r).h (mst r).d)
def heavyP (r : ReqM) (x : ItemM) : Bool := decide (2 * x.g > (mst r).g)
def greatM (r : ReqM) (us : List Int) : Int := if classM r = 0 then max ((itemsM r us).countP (wideP r) : Int) ((itemsM r us).countP (heavyP r) : Int) else 0
def lowM (r : ReqM) (us : List Int) : Int := max (max (lowVolM r us) (lowGramM r us)) (greatM r us)
theorem volumeOf_any {r : ReqM} {pv tv iv uv : Value} {us : List Int} (w : World) (h : Rd w pv 2 (r.pairs.map PairM.cells)) (h2 : Rd w tv 7 (r.types.map TypeM.cells)) (h3 : Rd w iv 7 (r.items.map ItemM.cells)) (h4 : Rd w uv 1 (us.map icell)) (hul : us.length ≤ 1048576) :
    FnV Tryz.prog 179 [.agg (r.cells pv tv iv).toArray, uv] w (.int .i64 (volUS r us)) := by
  have hil := items_len r us
  have hil2 : ((itemsM r us).map ItemM.cells).length = (itemsM r us).length := by simp
  refine FnV.of (n := 27) Tryz.func179 rfl rfl ?_; refine zaJ (fun bk2 _ => ?_); refine zaB ?_; refine zaG ?_; refine G.seq ?_; refine zaU ?_; refine zcW ?_; rintro vs hvs; try dsimp only
  refine zcI ?_; refine zbt ?_; refine G.loopK (ι := Nat) (ks := [10, 11]) (fun k => [(5, .int .i64 (vSum ((itemsM r us).take k))), (12, .int .i64 k)]) (fun _ => []) (fun k => k ≤ (itemsM r us).length) (fun k => (itemsM r us).length - k) 0 (.cons rfl (.cons rfl (.nil))) rfl ?_ ?_ ?_
  exact Nat.zero_le _
  exact ⟨rfl, rfl, trivial⟩
  rintro k hk
  have hgi := vSum_in (l := (itemsM r us).take k) (fun x hx => items_ok x (List.mem_of_mem_take hx))
  rw [List.length_take, Nat.min_eq_left hk] at hgi
  by_cases hlt : k < (itemsM r us).length
  case' pos => (obtain ⟨b, hb⟩ := get_of_lt hlt; have he := get_map hb ItemM.cells; have hbg : 1 ≤ volM b.w b.h b.d ∧ volM b.w b.h b.d ≤ 8000000000 := item_vol (items_ok b (List.mem_of_getElem? hb)); have hgt := vSum_take hb)
  all_goals
   refine zbo ?_; refine G.cond rfl (fun hc => ?_) (fun hc => ?_)
   · all_goals
      replace hc := of_decide_eq_true hc
      try (exfalso; omega)
      all_goals
       refine zdo ?_; refine G.v (rv_indexH rfl rfl ze rfl zf) rfl ?_; refine G.v (rv_loadEW rfl ze zf rfl) rfl ?_; refine zbn (fun bk7 _ => ?_); refine zaN (fun _ _ => ?_); refine za1 ?_; refine zbi ?_; refine zaK ?_; refine zaK ?_; refine zaK ?_; refine G.op (og_callV rfl rfl (fun w hh => volume_any b.w b.h b.d w)) rfl (fun _ _ => ?_); refine zbT ?_; refine za0 ?_; refine zaO ?_; refine G.backK (k + 1) 1 rfl (.cons rfl (.cons rfl (.nil))) ?_ ?_ ?_
       exact ⟨congrArg (fun z => some (Value.int .i64 z)) hgt.symm, rfl, trivial⟩
       exact hlt
       omega
   · all_goals
      replace hc := of_decide_eq_false hc
      try (exfalso; omega)
      all_goals
       refine zce ?_
       exact G.retFV rfl rfl (congrArg (Value.int .i64) (by rw [take_all zc]; exact vSum_items r us))
section
variable {r : ReqM} {pv tv iv uv : Value} {us : List Int} (w : World) (h : Rd w pv 2 (r.pairs.map PairM.cells)) (h2 : Rd w tv 7 (r.types.map TypeM.cells)) (h3 : Rd w iv 7 (r.items.map ItemM.cells)) (h4 : Rd w uv 1 (us.map icell)) (hul : us.length ≤ 1048576)
include h h2 h3 h4 hul
end
end Go.Proofs.YtglpgohilfoecaaGreat

/-
  What no packing is below: the reference's way, and the law.
-/
namespace Go.Proofs.YtglpgohilfoecaaGreat
open Go.RowKit
section
variable {P : Program} {n : Nat} {w0 : World} {fr : Fr} {H : List Ch}
def fieldOne (P : Program) (t : TypeId) (i : Nat) : Option Nat :=
  match P.underlying t with
  | some (.struct fs) => match fs[i]? with
    | some f => if (P.underlying f.type).map aggB = some false then some f.offset else none
    | none => none
  | _ => none
theorem rv_fieldV {x : Operand} {t : TypeId} {i : Nat} {cs : List Value} {v : Value} (off : Nat) (hx : opv fr x = some (.agg cs.toArray)) (hF : fieldOne P t i = some off) (hv : cs[off]? = some v) : RunsV P n w0 fr H (.field t x i) v := fun a w hr _ _ _ _ _ _ => by
  unfold fieldOne at hF
  split at hF
  · rename_i fs hs
    split at hF
    · rename_i f hf
      split at hF
      · rename_i h1
        injection hF with hF
        subst hF
        simp [execOp, hr.opv hx, Instr.field, run_underlying hs, hf, asAgg, part, run_isAgg_one h1, hv]
      · cases hF
    · cases hF
  · cases hF
theorem rv_sliceLH {x y z : Operand} {t e : TypeId} {s bs : Nat} {zs : List Value} [hT : TySlice P t e] [hI : TyInfo P e s zs bs] {v : Value} {es : List (List Value)} {k k2 : IntKind} {l h : Nat} {q : Int} (hx : opv fr x = some v) (hy : opv fr y = some (.int k (l : Int))) (hz : opv fr z = some (.int k2 q)) (hq : q = (h : Int)) (hv : ∀ w, HeapOk w0 w H → Rd w v s es) (hl : l ≤ h) (hh : h ≤ es.length) :
    RunsV P n w0 fr H (.slice t x (some y) (some z) none) (subV v s l h) := fun a w hr hw _ _ _ _ _ => by
  subst hq
  obtain ⟨ad, cap, rfl, h1, h2, h3⟩ := (hv w hw).form
  obtain ⟨i, z, g1, g2, g3, g4, g5⟩ := hI.get
  have e1 : (l : Int) ≤ (h : Int) := by omega
  have e2 : (0 : Int) ≤ (l : Int) := by omega
  have e3 : (h : Int) ≤ (cap : Int) := by omega
  have e4 : (0 : Int) ≤ (h : Int) := by omega
  simp [execOp, hr.opv hx, hr.opv hy, hr.opv hz, Instr.sliceAt, Instr.slice, run_underlying hT.h, Instr.sliceBounds, run_sliceBound, sizeOf, typeInfo, g1, g2, subV, sliced, e1, e2, e3, e4]
theorem FnV.toFn {f : FuncId} {vs : List Value} {w : World} {v : Value} (h : FnV P f vs w v) : Fn P f vs w (fun _ : Unit => True) (fun _ => v) (fun _ => []) :=
  Calls.mono h fun e w' he => ⟨(), trivial, he.1, he.2⟩
end
attribute [local irreducible] Go.wpList Go.Code.wp Go.Exit.then Go.Exit.inBlock Go.bodyPost Go.Calls pE pB G RunsV FnV Fn FnM
set_option maxRecDepth 100000
set_option maxHeartbeats 4000000
theorem itemOr_v (r : ReqM) (u : Int) : volM (itemOr r u).w (itemOr r u).h (itemOr r u).d = vOf r u := by
  rw [itemOr, vOf]; cases itemAt r u <;> rfl
theorem load_eq {r : ReqM} {us : List Int} {k : Nat} {u : Int} (hb : us[k]? = some u) : [Value.int .i64 (volUS r (us.take k) + volM (itemOr r u).w (itemOr r u).h (itemOr r u).d), Value.int .i64 (gramM r (us.take k) + (itemOr r u).g)] = [Value.int .i64 (volUS r (us.take (k + 1))), Value.int .i64 (gramM r (us.take (k + 1)))] := by
  rw [volUS_take hb, gram_take hb, itemOr_v, itemOr_g]
theorem one_sub {us : List Int} {k : Nat} {u : Int} (hb : us[k]? = some u) : ((us.map icell).drop k).take (k + 1 - k) = [u].map icell := by
  have hk := (List.getElem?_eq_some_iff.1 hb)
  obtain ⟨h1, rfl⟩ := hk
  rw [show k + 1 - k = 1 by omega, ← List.map_drop, List.drop_eq_getElem_cons h1]; rfl
theorem volUS_one (r : ReqM) (u : Int) : volUS r [u] = vOf r u := by simp [volUS]
section
variable {r : ReqM} {pv tv iv uv : Value} {us : List Int} (w : World) (h : Rd w pv 2 (r.pairs.map PairM.cells)) (h2 : Rd w tv 7 (r.types.map TypeM.cells)) (h3 : Rd w iv 7 (r.items.map ItemM.cells)) (h4 : Rd w uv 1 (us.map icell)) (hul : us.length ≤ 1048576)
include h3 h4 hul in
theorem l7Of_any {av : Value} (h5 : Rd w av 1 ((unitsM r).map ncell)) : FnV Tryz.prog 197 [.agg (r.cells pv tv iv).toArray, av, uv] w (.agg [.int .i64 (volUS r us), .int .i64 (gramM r us)].toArray) := by
  refine FnV.of (n := 46) Tryz.func197 rfl rfl ?_; refine zaJ (fun bk3 _ => ?_); refine zbn (fun bk6 _ => ?_); refine za1 ?_; refine zdk ?_; refine zbn (fun bk7 _ => ?_); refine G.op0 (og_st0 rfl rfl rfl rfl rfl rfl (.zero (.cons (.cons .nil)))) (fun _ _ => ?_); refine za1 ?_; refine G.seq ?_; refine zbL ?_; refine G.loopK (ι := Nat) (ks := [1, 2, 3, 6, 7]) (fun k => [(8, .int .i64 k)]) (fun k => [.blk bk7 201 [.int .i64 (volUS r (us.take k)), .int .i64 (gramM r (us.take k))]]) (fun k => k ≤ us.length) (fun k => us.length - k) 0 (.cons rfl (.cons rfl (.cons rfl (.cons rfl (.cons rfl (.nil)))))) rfl ?_ ?_ ?_
  exact Nat.zero_le _
  exact ⟨rfl, trivial⟩
  rintro k hk
  have hgi := gram_in r (us.take k)
  have hvi := volUS_in r (us.take k)
  rw [List.length_take, Nat.min_eq_left hk] at hgi hvi
  by_cases hlt : k < us.length
  case' pos => (obtain ⟨u, hb⟩ := get_of_lt hlt; have e1 := get_map hb icell; have hog := itemOr_g r u; have hov := itemOr_v r u; have hg2 := gOf_in r u; have hv2 := vOf_in r u)
  all_goals
   refine zbv ?_; refine G.cond rfl (fun hc => ?_) (fun hc => ?_)
   · all_goals
      replace hc := of_decide_eq_true hc
      simp only [List.length_map] at hc
      try (exfalso; omega)
      all_goals
       refine zaQ ?_; refine G.seq (G.drawL [12] ?_); refine GE.q 0 rfl za rfl (qg_runs (rv_loadW 2 rfl rfl rfl)) rfl ?_; refine zcU ?_; refine zc7 ?_; refine zbN ?_; refine GE.q 4 rfl za rfl (qg_runs (rv_indexH rfl rfl zb rfl zf)) rfl ?_; refine GE.q 5 rfl za rfl (qg_runs (rv_loadE rfl zb zf rfl)) rfl ?_; refine GE.q 6 rfl za rfl (qg_call rfl rfl (fun w hh => l6Item_any (r := r) u w (Rd.stays h3 _ hh) (Rd.stays h5 _ hh))) rfl ?_; refine zcq (fun bk9 _ => ?_)
       refine zdI (fun _ _ => ?_); refine zc9 (fun _ _ => ?_); refine zbj ?_; refine G.seq (G.drawL [10, 11] ?_); refine zct ?_; refine zcg ?_; refine zdU (fun _ _ => ?_); refine GE.ol 7 za rfl rfl (og_runs (rv_load1 0 rfl rfl rfl)) rfl zd (fun _ _ => ?_); refine GE.ol 8 za rfl rfl (og_callV rfl rfl (fun w hh => svolume_any (itemOr r u).w (itemOr r u).h (itemOr r u).d w)) rfl zd (fun _ _ => ?_)
       refine GE.ol 9 za rfl rfl (og_runs (rv_addB rfl rfl zc zc)) rfl zd (fun _ _ => ?_); refine GE.t 10 za rfl rfl rfl (og_runs (rv_field rfl)) rfl (fun _ _ => ?_); refine GE.t0 11 za rfl rfl rfl (og_st1 rfl rfl rfl rfl rfl rfl (.zero (.cons .nil))) (fun _ _ => ?_); refine zbj ?_; refine G.region ?_; refine zbe ?_; refine zaK ?_; refine zbT ?_; refine zaS ?_; refine G.op0 (og_st1 rfl rfl rfl rfl rfl rfl (.succ (.zero (.cons .nil)))) (fun _ _ => ?_); refine G.done ?_; refine zaE ?_; refine G.backK (k + 1) 1 (one_eq (congrArg (fun z => Ch.blk bk7 201 z) (load_eq hb))) (.cons rfl (.cons rfl (.cons rfl (.cons rfl (.cons rfl (.nil)))))) ?_ ?_ ?_
       exact ⟨rfl, trivial⟩
       exact hlt
       omega
   · all_goals
      replace hc := of_decide_eq_false hc
      simp only [List.length_map] at hc
      try (exfalso; omega)
      all_goals
       refine zaL ?_; refine zaU ?_; refine G.op0 (og_st1 rfl rfl rfl rfl rfl rfl (.zero (.cons (.cons .nil)))) (fun _ _ => ?_); refine zfF ?_
       rw [take_all (l := us) (k := k) zc]; exact G.retFVc 1 rfl rfl rfl rfl rfl
include h h2 h3 h4 hul
end
end Go.Proofs.YtglpgohilfoecaaGreat
