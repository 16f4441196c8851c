/-
  Short names of runs of steps that come again and again in this proof.
-/
import Derived.WalkKit
set_option linter.unusedVariables false
set_option linter.unusedSimpArgs false

namespace Go.Proofs.YtglpgohilfoecaaGreat
structure Zz (B : Prop) : Prop where
 x : B
theorem za {A : Prop} (h : A := by as_aux_lemma => kernel_rfl) : A := h
theorem zb {A : Prop} (h : A := by omega) : A := h
theorem zc {A : Prop} (h : A := by assumption) : A := h
theorem zd {A : Prop} (h : A := by exact fun _ _ h => h) : A := h
theorem ze {A : Prop} (h : A := by exact Rd.stays zc) : A := h
theorem zf {A : Prop} (h : A := by exact fun _ _ h => h.drop 2) : A := h
theorem zg {A : Prop} (h : A := by exact Rd.owned 0 rfl) : A := h
theorem zh {A : Prop} (h : A := by (simp; omega)) : A := h
theorem zi {A : Prop} (h : A := by exact Rd.owned 1 rfl) : A := h
theorem zj {A : Prop} (h : A := by exact fun _ _ h => h.drop 1) : A := h
theorem zk {A : Prop} (h : A := by exact fun _ _ h => h.drop 3) : A := h
theorem zl {A : Prop} (h : A := by exact fun _ _ h => by first | exact h | exact h.drop 1 | exact h.drop 2 | exact h.drop 3 | exact h.drop 4 | exact h.drop 5 | exact h.drop 6 | exact h.drop 7 | exact h.drop 8 | exact h.drop 9 | exact h.drop 10 | exact h.drop 11 | exact h.drop 12 | exact h.drop 13) : A := h
theorem zm {A : Prop} (h : A := by exact Rd.owned 2 rfl) : A := h
theorem zn {A : Prop} (h : A := by exact fun _ h => h.drop 1) : A := h
theorem zo {A : Prop} (h : A := by first | exact Rd.stays zc | exact Rd.owned 0 rfl | exact Rd.owned 1 rfl | exact Rd.owned 2 rfl | exact Rd.owned 3 rfl) : A := h
theorem zp {A : Prop} (h : A := by rw [← hkall]; first | exact Rd.owned 0 rfl _ hh | exact Rd.owned 1 rfl _ hh | exact Rd.owned 2 rfl _ hh | exact Rd.owned 3 rfl _ hh) : A := h
theorem zq {A : Prop} (h : A := by exact he) : A := h
theorem zr {A : Prop} (h : A := by (dsimp only at *; omega)) : A := h
theorem zt {A : Prop} (h : A := by exact fun _ h => h.drop 2) : A := h
theorem zu {A : Prop} (h : A := by exact fun _ _ h => h.drop 4) : A := h
theorem zv {A : Prop} (h : A := by (simp only [List.length_cons, List.length_append, List.length_nil, List.length_set, List.length_drop] at *; omega)) : A := h
theorem zw {A : Prop} (h : A := by rw [List.length_append]; exact hul) : A := h
theorem zA {A : Prop} (h : A := by exact Rd.owned 3 rfl) : A := h
theorem zB {A : Prop} (h : A := by simpa using hc) : A := h
theorem zC {A : Prop} (h : A := by first | rfl | assumption) : A := h
theorem zD {A : Prop} (h : A := by simp) : A := h
theorem zE {A : Prop} (h : A := by exact e1) : A := h
theorem zF {A : Prop} (h : A := by first | exact Rd.stays zc | exact Rd.owned 2 rfl) : A := h
theorem zG {A : Prop} (h : A := by simp only [List.all_cons, List.all_nil, Bool.and_true, Bool.and_eq_true]; exact ⟨rfl, by assumption⟩) : A := h
theorem zH {A : Prop} (h : A := by exact Rd.stays zc _ hh) : A := h
theorem zI {A : Prop} (h : A := by exact two_eq (congrArg (fun z => Ch.grp 3 1 z) into_sub) (congrArg (fun z => Ch.row v2 52 1 z) into_g)) : A := h
theorem zJ {A : Prop} (h : A := by first | exact Rd.stays zc | exact Rd.owned 0 rfl | exact Rd.owned 1 rfl) : A := h
theorem zK {A : Prop} (h : A := by exact two_eq (congrArg (fun z => Ch.grp 3 1 z) rfl) (congrArg (fun z => Ch.row va 52 1 z) push_g)) : A := h
theorem zL {A : Prop} (h : A := by rw [List.map_append]; rfl) : A := h
theorem zM {A : Prop} (h : A := by exact fun _ _ h => h.drop 5) : A := h
theorem zN {A : Prop} (h : A := by first | (simp; done) | (simp; omega)) : A := h
theorem zO {A : Prop} (h : A := by exact e2) : A := h
theorem zP {A : Prop} (h : A := by exact Rd.owned 0 rfl _ hh) : A := h
theorem zQ {A : Prop} (h : A := by rw [← snoc_cells]; exact Rd.owned 1 rfl _ hh) : A := h
theorem zR {A : Prop} (h : A := by rw [← snoc_cells]; exact Rd.owned 2 rfl _ hh) : A := h
theorem zS {A : Prop} (h : A := by exact (fun w hw => s2_rd (Rd.owned 0 rfl w hw) zb zb)) : A := h
theorem zT {A : Prop} (h : A := by exact Rd.owned 4 rfl) : A := h
theorem zU {A : Prop} (h : A := by first | exact he | exact heb) : A := h
theorem zV {A : Prop} (h : A := by exact get_set1 (get_set1 he)) : A := h
theorem zW {A : Prop} (h : A := by simp only [betterM]; (try simp only [decide_eq_true_eq, decide_eq_false_iff_not] at *); simp_all <;> omega) : A := h
theorem zX {A : Prop} (h : A := by exact heb) : A := h
theorem zY {A : Prop} (h : A := by rw [List.length_map]; omega) : A := h
theorem zZ {A : Prop} (h : A := by exact get_set1 (get_set1 (get_set1 he))) : A := h
theorem z6 {A : Prop} (h : A := by exact Rd.owned 5 rfl) : A := h
theorem z7 {A : Prop} (h : A := by rcases hl with hl | hl; (rcases hL with h | h; exact .inl (hl.trans h); exact .inr (.inl zb)); (by_cases hz : j = a; exact .inl hz; rw [show (a + b) / 2 + m - 1 - (j - 1) = (a + b) / 2 + m - j from by omega] at hl; exact .inr (.inr hl))) : A := h
theorem z8 {A : Prop} (h : A := by simp; omega) : A := h
theorem zaa {A : Prop} (h : A := by exact Rd.owned 6 rfl) : A := h
theorem zab {A : Prop} (h : A := by (rw [hq]; exact get_last hts)) : A := h
theorem zac {A : Prop} (h : A := by exact .cell 0 rfl rfl rfl) : A := h
theorem zad {A : Prop} (h : A := by rw [List.length_take]; omega) : A := h
theorem zae {A : Prop} (h : A := by (simp; done)) : A := h
theorem zaf {A : Prop} (h : A := by exact get_set1 he) : A := h
theorem zag {A : Prop} (h : A := by rw [← Nat.eq_of_beq_eq_true hlen]; exact hs.eq.2) : A := h
theorem zah {A : Prop} (h : A := by rcases hr with hr | hr; (rcases hR with h | h; exact .inl (hr.trans h); exact .inr (.inl zb)); (rw [show (a + b) / 2 + m - 1 - j = (a + b) / 2 + m - j - 1 from by omega] at hr; exact .inr (.inr hr))) : A := h
theorem zai {A : Prop} (h : A := by exact get_setN zb e2) : A := h
theorem zaj {A : Prop} (h : A := by exact Rd.owned 7 rfl) : A := h
theorem zak {A : Prop} (h : A := by rw [htt]; rfl) : A := h
theorem zal {A : Prop} (h : A := by exact e3) : A := h
theorem zam {A : Prop} (h : A := by first | exact Rd.stays zc) : A := h
theorem zan {A : Prop} (h : A := by exact Rd.owned 2 rfl _ hh) : A := h
theorem zao {A : Prop} (h : A := by dsimp only; omega) : A := h
theorem zap {A : Prop} (h : A := by rw [← show cs.map Prod.fst = cartonsM r from hcs]; exact List.mem_map_of_mem hc) : A := h
theorem zaq {A : Prop} (h : A := by exact heo) : A := h
theorem zar {A : Prop} (h : A := by first | exact Rd.owned 0 rfl | exact Rd.owned 1 rfl) : A := h
theorem zas {A : Prop} (h : A := by exact get_set1 (get_set1 (get_set1 (get_set1 he)))) : A := h
theorem zat {A : Prop} (h : A := by rfl) : A := h
theorem zau {A : Prop} (h : A := by rw [classM, if_neg (by simp [hbo]), if_neg (by simp [hna]), if_neg (by simp [hta]), if_neg (by rw [hfi]; decide), if_neg (by rw [hpa]; decide)]) : A := h
theorem zav {A : Prop} (h : A := by rw [← snoc_cells]; exact Rd.owned 0 rfl _ hh) : A := h
theorem zaw {A : Prop} (h : A := by rw [← show cs.map Prod.fst = cartonsM r from hcs, List.length_map]) : A := h
theorem zax {A : Prop} (h : A := by exact Rd.owned 1 rfl _ hh) : A := h
theorem zay {A : Prop} (h : A := by exact heq) : A := h
theorem zaA {A : Prop} (h : A := by first | exact last_nil (by rw [List.length_map]; exact hn0) | exact last_no (fst_at htq) (by rw [List.length_map]; exact hn1) hc) : A := h
theorem zaB {A : Prop} (h : A := by (rw [hts]; simp)) : A := h
theorem zaC {A : Prop} (h : A := by exact Rd.ofBlk 0 rfl rfl w hh) : A := h
theorem zaD {A : Prop} (h : A := by first | omega | (simp; omega)) : A := h
theorem zaE {A : Prop} (h : A := by simp only [inB, Bool.and_eq_true, decide_eq_true_eq]; omega) : A := h
theorem zaF {A : Prop} (h : A := by exact htf) : A := h
theorem zaG {A : Prop} (h : A := by rw [List.length_drop]; omega) : A := h
theorem zaH {A : Prop} (h : A := by first | exact he | exact e2) : A := h
theorem zaI {A : Prop} (h : A := by repeat (exact List.Sublist.refl _)) : A := h
theorem zaJ {A : Prop} (h : A := by exact Rd.owned 7 rfl _ hh) : A := h
theorem zaK {A : Prop} (h : A := by kernel_rfl) : A := h
theorem zaL {A B : Prop} (x : B) (h : Zz B → A := by intro zz; exact G.v (rv_assign rfl) rfl (G.done (G.thenN zz.x))) : A := h ⟨x⟩
theorem zaM {A B : Prop} (x : B) (h : Zz B → A := by intro zz; exact G.v (rv_move rfl) rfl zz.x) : A := h ⟨x⟩
theorem zaN {A B : Prop} (x : B) (h : Zz B → A := by intro zz; exact G.seq (G.region (G.v (rv_move rfl) rfl zz.x))) : A := h ⟨x⟩
theorem zaO {A B : Prop} (x : B) (h : Zz B → A := by intro zz; exact G.inN (G.thenN (G.region (G.v (rv_move rfl) rfl (G.v (rv_incr rfl rfl zb) rfl (G.v (rv_assign rfl) rfl (G.done zz.x))))))) : A := h ⟨x⟩
theorem zaP {A B : Prop} (x : B) (h : Zz B → A := by intro zz; exact G.gN rfl rfl rfl zz.x) : A := h ⟨x⟩
theorem zaQ {A B : Prop} (x : B) (h : Zz B → A := by intro zz; exact G.gY rfl rfl zz.x) : A := h ⟨x⟩
theorem zaR {A B : Prop} (x : B) (h : Zz B → A := by intro zz; exact G.seq (G.region (G.v (rv_assign rfl) rfl (G.done (G.thenN zz.x))))) : A := h ⟨x⟩
theorem zaS {A B : Prop} (x : B) (h : Zz B → A := by intro zz; exact GE.ol 10 za rfl rfl (og_runs (rv_build2 rfl (.cons rfl (.cons rfl (.cons rfl (.cons rfl (.cons rfl (.cons rfl (.cons rfl .nil))))))) (.cons rfl rfl (.zero (.cons .nil)) (.cons rfl rfl (.succ (.zero (.cons .nil))) (.cons rfl rfl (.succ (.succ (.zero (.cons .nil)))) (.cons rfl rfl (.succ (.succ (.succ (.zero (.cons .nil))))) (.cons rfl rfl (.succ (.succ (.succ (.succ (.zero (.cons .nil)))))) (.cons rfl rfl (.succ (.succ (.succ (.succ (.succ (.zero (.cons .nil))))))) (.cons rfl rfl (.succ (.succ (.succ (.succ (.succ (.succ (.zero (.cons .nil)))))))) .nil))))))))) rfl zu zz.x) : A := h ⟨x⟩
theorem zaT {A B : Prop} (x : B) (h : Zz B → A := by intro zz; exact G.v (rv_lss rfl rfl) rfl (G.done (G.thenN zz.x))) : A := h ⟨x⟩
theorem zaU {A B : Prop} (x : B) (h : Zz B → A := by intro zz; exact G.seq (G.region (G.op (og_box rfl rfl) rfl zz.x))) : A := h ⟨x⟩
theorem zaV {A B : Prop} (x : B) (h : Zz B → A := by intro zz; exact G.op0 (og_st0 rfl rfl rfl rfl rfl rfl (.zero (.cons (.cons (.cons (.cons (.cons (.cons (.cons .nil))))))))) zz.x) : A := h ⟨x⟩
theorem zaW {A B : Prop} (x : B) (h : Zz B → A := by intro zz; exact G.exit (G.thenX (G.thenX (G.inX (G.thenN zz.x))))) : A := h ⟨x⟩
theorem zaX {A B : Prop} (x : B) (h : Zz B → A := by intro zz; exact G.inN (G.thenN (G.region (G.v (rv_incr rfl rfl zb) rfl (G.v (rv_move rfl) rfl (G.done zz.x)))))) : A := h ⟨x⟩
theorem zaY {A B : Prop} (x : B) (h : Zz B → A := by intro zz; exact GE.ol 21 za rfl rfl (og_runs (rv_build2 rfl (.cons rfl (.cons rfl (.cons rfl (.cons rfl (.cons rfl (.cons rfl (.cons rfl .nil))))))) (.cons rfl rfl (.zero (.cons .nil)) (.cons rfl rfl (.succ (.zero (.cons .nil))) (.cons rfl rfl (.succ (.succ (.zero (.cons .nil)))) (.cons rfl rfl (.succ (.succ (.succ (.zero (.cons .nil))))) (.cons rfl rfl (.succ (.succ (.succ (.succ (.zero (.cons .nil)))))) (.cons rfl rfl (.succ (.succ (.succ (.succ (.succ (.zero (.cons .nil))))))) (.cons rfl rfl (.succ (.succ (.succ (.succ (.succ (.succ (.zero (.cons .nil)))))))) .nil))))))))) rfl zf zz.x) : A := h ⟨x⟩
theorem zaZ {A B : Prop} (x : B) (h : Zz B → A := by intro zz; exact G.seq (G.region (G.v (rv_move rfl) rfl (G.v (rv_move rfl) rfl zz.x)))) : A := h ⟨x⟩
theorem za0 {A B : Prop} (x : B) (h : Zz B → A := by intro zz; exact G.v (rv_load1 0 rfl rfl rfl) rfl zz.x) : A := h ⟨x⟩
theorem za1 {A B : Prop} (x : B) (h : Zz B → A := by intro zz; exact G.v (rv_field rfl) rfl zz.x) : A := h ⟨x⟩
theorem za2 {A B : Prop} (x : B) (h : Zz B → A := by intro zz; exact G.op (og_lit rfl (.cons rfl .nil) rfl rfl rfl rfl rfl rfl) rfl zz.x) : A := h ⟨x⟩
theorem za3 {A B : Prop} (x : B) (h : Zz B → A := by intro zz; exact G.skip (G.thenN (G.seq (G.block zz.x)))) : A := h ⟨x⟩
theorem za4 {A B : Prop} (x : B) (h : Zz B → A := by intro zz; refine GE.q 0 rfl za rfl (qg_runs (rv_move rfl)) rfl ?_; exact GE.q 1 rfl za rfl (qg_runs (rv_move rfl)) rfl zz.x) : A := h ⟨x⟩
theorem za5 {A B : Prop} (x : B) (h : Zz B → A := by intro zz; refine G.drawL [7, 8, 9] ?_; refine GE.q 0 rfl za rfl (qg_runs (rv_move rfl)) rfl ?_; refine GE.q 1 rfl za rfl (qg_runs (rv_nilCheckE rfl)) rfl ?_; exact GE.q 2 rfl za rfl (qg_runs (rv_fieldE rfl)) rfl zz.x) : A := h ⟨x⟩
theorem za6 {A B : Prop} (x : B) (h : Zz B → A := by intro zz; exact G.seq (G.region (G.op (og_lit rfl .nil rfl rfl rfl rfl rfl rfl) rfl zz.x))) : A := h ⟨x⟩
theorem za7 {A B : Prop} (x : B) (h : Zz B → A := by intro zz; exact G.seq (G.region (G.v (rv_loadW 0 rfl rfl rfl) rfl zz.x))) : A := h ⟨x⟩
theorem za8 {A B : Prop} (x : B) (h : Zz B → A := by intro zz; refine G.skip (G.thenN (G.seq (G.block (G.drawS [15, 17] rfl ?_)))); refine GS.p 0 rfl za (qg_runs (rv_move rfl)) (fun _ h => h.drop 1) rfl ?_; refine GS.p 1 rfl za (qg_runs (rv_move rfl)) (fun _ h => h.drop 1) rfl ?_; refine GS.p 2 rfl za (qg_runs (rv_move rfl)) (fun _ h => h.drop 1) rfl ?_; refine GS.p 3 rfl za (qg_runs (rv_move rfl)) (fun _ h => h.drop 1) rfl ?_; refine GS.p 4 rfl za (qg_runs (rv_decr rfl rfl zb zb)) (fun _ h => h.drop 1) rfl ?_; refine GS.p 5 rfl za (qg_runs (rv_move rfl)) (fun _ h => h.drop 1) rfl ?_; refine GS.p 6 rfl za (qg_runs (rv_move rfl)) (fun _ h => h.drop 1) rfl ?_; refine GS.p 7 rfl za (qg_runs (rv_decr rfl rfl zb zb)) (fun _ h => h.drop 1) rfl ?_; refine GS.q 8 [9, 14, 15, 16, 17] rfl za za (qg_runs (rv_indexH rfl rfl zg rfl zO)) rfl ?_; refine GS.q 9 [14, 15, 16, 17] rfl za za (qg_runs (rv_loadE rfl zg zO rfl)) rfl ?_; exact GS.p 10 rfl za (qg_runs (rv_move rfl)) (fun _ h => h.drop 1) rfl zz.x) : A := h ⟨x⟩
theorem za9 {A B : Prop} (x : B) (h : Zz B → A := by intro zz; exact G.op (og_callV rfl rfl (fun w _ => in_any _ _ _ w)) rfl zz.x) : A := h ⟨x⟩
theorem zba {A B : Prop} (x : B) (h : Zz B → A := by intro zz; exact G.v (rv_pickT rfl rfl) rfl zz.x) : A := h ⟨x⟩
theorem zbb {A B : Prop} (x : B) (h : Zz B → A := by intro zz; exact G.v (rv_assign rfl) rfl (G.done zz.x)) : A := h ⟨x⟩
theorem zbc {A B : Prop} (x : B) (h : Zz B → A := by intro zz; exact G.v (rv_pickF rfl rfl) rfl zz.x) : A := h ⟨x⟩
theorem zbd {A B : Prop} (x : B) (h : Zz B → A := by intro zz; exact GE.ol 25 za rfl rfl (og_runs (rv_build2 rfl (.cons (cells_one zc) (.cons rfl (.cons rfl (.cons rfl .nil)))) (.cons rfl rfl (.zero (.cons .nil)) (.cons rfl rfl (.succ (.zero (.cons .nil))) (.cons rfl rfl (.succ (.succ (.zero (.cons .nil)))) (.cons rfl rfl (.succ (.succ (.succ (.zero (.cons .nil))))) .nil)))))) rfl zf zz.x) : A := h ⟨x⟩
theorem zbe {A B : Prop} (x : B) (h : Zz B → A := by intro zz; exact G.done (G.thenN zz.x)) : A := h ⟨x⟩
theorem zbf {A B : Prop} (x : B) (h : Zz B → A := by intro zz; exact G.op (og_callV rfl rfl (fun w _ => l1In_any _ _ _ w)) rfl zz.x) : A := h ⟨x⟩
theorem zbg {A B : Prop} (x : B) (h : Zz B → A := by intro zz; exact G.v (rv_len rfl ze) rfl zz.x) : A := h ⟨x⟩
theorem zbh {A B : Prop} (x : B) (h : Zz B → A := by intro zz; refine G.v (rv_indexH rfl rfl ze rfl zc) rfl ?_; exact G.v (rv_loadEW rfl ze zc rfl) rfl zz.x) : A := h ⟨x⟩
theorem zbi {A B : Prop} (x : B) (h : Zz B → A := by intro zz; exact G.v (rv_move rfl) rfl (G.v (rv_extract rfl rfl) rfl (G.v (rv_extract rfl rfl) rfl (G.op (og_alloc) rfl zz.x)))) : A := h ⟨x⟩
theorem zbj {A B : Prop} (x : B) (h : Zz B → A := by intro zz; refine GS.p 11 rfl za (qg_runs (rv_move rfl)) (fun _ h => h.drop 1) rfl ?_; refine GS.q 12 [13, 14, 15, 16, 17] rfl za za (qg_runs (rv_indexH rfl rfl zg rfl zE)) rfl ?_; refine GS.q 13 [14, 15, 16, 17] rfl za za (qg_runs (rv_loadE rfl zg zE rfl)) rfl ?_; refine GS.q 14 [15, 16, 17] rfl za za (qg_runs (rv_indexH rfl rfl zg rfl zE)) rfl ?_; exact GS.o0 15 za rfl rfl (og_stE0 rfl rfl rfl zE rfl rfl rfl rfl (.zero (.cons .nil))) (fun _ _ h => h.drop 1) zz.x) : A := h ⟨x⟩
theorem zbk {A B : Prop} (x : B) (h : Zz B → A := by intro zz; exact G.v (rv_assign rfl) rfl (G.done (G.thenN (G.seq zz.x)))) : A := h ⟨x⟩
theorem zbl {A B : Prop} (x : B) (h : Zz B → A := by intro zz; exact G.v (rv_field rfl) rfl (G.v (rv_load1 1 rfl rfl rfl) rfl zz.x)) : A := h ⟨x⟩
theorem zbm {A B : Prop} (x : B) (h : Zz B → A := by intro zz; refine GE.done za ?_; exact G.thenN zz.x) : A := h ⟨x⟩
theorem zbn {A B : Prop} (x : B) (h : Zz B → A := by intro zz; refine G.seq (G.drawL [] ?_); refine GE.q 0 rfl za rfl (qg_runs (rv_field rfl)) rfl ?_; refine GE.q 1 rfl za rfl (qg_runs (rv_load1 0 rfl rfl rfl)) rfl ?_; refine GE.q 2 rfl za rfl (qg_runs (rv_move rfl)) rfl ?_; refine GE.q 3 rfl za rfl (qg_runs (rv_indexH rfl rfl ze rfl zq)) rfl ?_; refine GE.q 4 rfl za rfl (qg_runs (rv_fieldE rfl)) rfl ?_; exact GE.q 5 rfl za rfl (qg_runs (rv_loadE rfl ze zq rfl)) rfl zz.x) : A := h ⟨x⟩
theorem zbo {A B : Prop} (x : B) (h : Zz B → A := by intro zz; exact GE.ol 20 za rfl rfl (og_runs (rv_build2 rfl (.cons (cells_one zc) (.cons rfl (.cons rfl .nil))) (.cons rfl rfl (.zero (.cons .nil)) (.cons rfl rfl (.succ (.zero (.cons .nil))) (.cons rfl rfl (.succ (.succ (.zero (.cons .nil)))) .nil))))) rfl zf zz.x) : A := h ⟨x⟩
theorem zbp {A B : Prop} (x : B) (h : Zz B → A := by intro zz; exact G.seq (G.region (G.v (rv_move rfl) rfl (G.v (rv_assign rfl) rfl (G.done (G.thenN (G.ret zz.x))))))) : A := h ⟨x⟩
theorem zbq {A B : Prop} (x : B) (h : Zz B → A := by intro zz; exact G.region (G.v (rv_move rfl) rfl zz.x)) : A := h ⟨x⟩
theorem zbr {A B : Prop} (x : B) (h : Zz B → A := by intro zz; refine G.gY rfl rfl ?_; exact G.v (rv_move rfl) rfl zz.x) : A := h ⟨x⟩
theorem zbs {A B : Prop} (x : B) (h : Zz B → A := by intro zz; exact G.seq (G.region (G.v (rv_lss rfl rfl) rfl (G.done (G.thenN (G.seq zz.x)))))) : A := h ⟨x⟩
theorem zbt {A B : Prop} (x : B) (h : Zz B → A := by intro zz; exact G.inR (G.thenR (G.thenR (G.inR (G.thenR zz.x))))) : A := h ⟨x⟩
theorem zbu {A B : Prop} (x : B) (h : Zz B → A := by intro zz; exact G.op (og_alloc) rfl zz.x) : A := h ⟨x⟩
theorem zbv {A B : Prop} (x : B) (h : Zz B → A := by intro zz; exact GE.ol 8 za rfl rfl (og_callF0 rfl rfl (fun w hh => (l7Of_any (r := r) (us := us ++ [u]) w (Rd.stays h3 _ hh) zR zw (Rd.stays h5 _ hh)).toFn)) rfl zk zz.x) : A := h ⟨x⟩
theorem zbw {A B : Prop} (x : B) (h : Zz B → A := by intro zz; exact G.v (rv_field rfl) rfl (G.v (rv_load1 2 rfl rfl rfl) rfl zz.x)) : A := h ⟨x⟩
theorem zbx {A B : Prop} (x : B) (h : Zz B → A := by intro zz; exact G.region (G.v (rv_field rfl) rfl (G.v (rv_load1 0 rfl rfl rfl) rfl zz.x))) : A := h ⟨x⟩
theorem zby {A B : Prop} (x : B) (h : Zz B → A := by intro zz; exact G.v (rv_move rfl) rfl (G.done (G.thenN (G.block zz.x)))) : A := h ⟨x⟩
theorem zbA {A B : Prop} (x : B) (h : Zz B → A := by intro zz; refine G.seq (G.drawL [] ?_); refine GE.q 0 rfl za rfl (qg_runs (rv_loadW 0 rfl rfl rfl)) rfl ?_; refine GE.q 1 rfl za rfl (qg_runs (rv_move rfl)) rfl ?_; refine GE.q 2 rfl za rfl (qg_runs (rv_move rfl)) rfl ?_; refine GE.q 3 rfl za rfl (qg_runs (rv_indexH rfl rfl ze rfl zc)) rfl ?_; refine GE.q 4 rfl za rfl (qg_runs (rv_fieldE rfl)) rfl ?_; refine GE.q 5 rfl za rfl (qg_runs (rv_loadE rfl ze zc rfl)) rfl ?_; refine GE.q 6 rfl za rfl (qg_runs (rv_move rfl)) rfl ?_; refine GE.q 7 rfl za rfl (qg_runs (rv_move rfl)) rfl ?_; refine GE.q 8 rfl za rfl (qg_runs (rv_indexH rfl rfl ze rfl zc)) rfl ?_; refine GE.q 9 rfl za rfl (qg_runs (rv_fieldE rfl)) rfl ?_; refine GE.q 10 rfl za rfl (qg_runs (rv_loadE rfl ze zc rfl)) rfl ?_; exact GE.q 11 rfl za rfl (qg_runs (rv_move rfl)) rfl zz.x) : A := h ⟨x⟩
theorem zbB {A B : Prop} (x : B) (h : Zz B → A := by intro zz; exact G.v (rv_not rfl) rfl zz.x) : A := h ⟨x⟩
theorem zbC {A B : Prop} (x : B) (h : Zz B → A := by intro zz; exact GE.t0 10 za rfl rfl rfl (og_st0 rfl rfl rfl rfl rfl rfl (.zero (.cons (.cons .nil)))) zz.x) : A := h ⟨x⟩
theorem zbD {A B : Prop} (x : B) (h : Zz B → A := by intro zz; exact G.op (og_callV rfl rfl (fun w hh => sclass_any (r := r) w (Rd.stays h _ hh) (Rd.stays h2 _ hh) (Rd.stays h3 _ hh))) rfl zz.x) : A := h ⟨x⟩
theorem zbE {A B : Prop} (x : B) (h : Zz B → A := by intro zz; exact GE.ol 27 za rfl rfl (og_runs (rv_build2 rfl (.cons (cells_one zc) (.cons rfl (.cons rfl (.cons rfl (.cons rfl .nil))))) (.cons rfl rfl (.zero (.cons .nil)) (.cons rfl rfl (.succ (.zero (.cons .nil))) (.cons rfl rfl (.succ (.succ (.zero (.cons .nil)))) (.cons rfl rfl (.succ (.succ (.succ (.zero (.cons .nil))))) (.cons rfl rfl (.succ (.succ (.succ (.succ (.zero (.cons .nil)))))) .nil))))))) rfl zf zz.x) : A := h ⟨x⟩
theorem zbF {A B : Prop} (x : B) (h : Zz B → A := by intro zz; refine GE.done za ?_; refine G.thenN (G.seq (G.drawL [8, 9, 10] ?_)); refine GE.q 0 rfl za rfl (qg_runs (rv_move rfl)) rfl ?_; refine GE.q 1 rfl za rfl (qg_runs (rv_move rfl)) rfl ?_; refine GE.q 2 rfl za rfl (qg_runs (rv_nilCheckE rfl)) rfl ?_; exact GE.q 3 rfl za rfl (qg_runs (rv_fieldE rfl)) rfl zz.x) : A := h ⟨x⟩
theorem zbG {A B : Prop} (x : B) (h : Zz B → A := by intro zz; exact G.v (rv_build2 rfl (.cons rfl (.cons rfl (.cons rfl (.cons rfl .nil)))) (.cons rfl rfl (.zero (.cons .nil)) (.cons rfl rfl (.succ (.zero (.cons .nil))) (.cons rfl rfl (.succ (.succ (.zero (.cons .nil)))) (.cons rfl rfl (.succ (.succ (.succ (.zero (.cons .nil))))) .nil))))) rfl zz.x) : A := h ⟨x⟩
theorem zbH {A B : Prop} (x : B) (h : Zz B → A := by intro zz; exact G.v (rv_move rfl) rfl (G.v (rv_move rfl) rfl zz.x)) : A := h ⟨x⟩
theorem zbI {A B : Prop} (x : B) (h : Zz B → A := by intro zz; exact G.op (og_app1 rfl rfl rfl zg rfl rfl zh zh) rfl zz.x) : A := h ⟨x⟩
theorem zbJ {A B : Prop} (x : B) (h : Zz B → A := by intro zz; refine GE.q 14 rfl za rfl (qg_runs (rv_addB rfl rfl zb zb)) rfl ?_; refine GE.q 15 rfl za rfl (qg_runs (rv_field rfl)) rfl ?_; refine GE.q 16 rfl za rfl (qg_runs (rv_load1 0 rfl rfl rfl)) rfl ?_; exact GE.q 17 rfl za rfl (qg_runs (rv_field rfl)) rfl zz.x) : A := h ⟨x⟩
theorem zbK {A B : Prop} (x : B) (h : Zz B → A := by intro zz; exact GE.ol 6 za rfl rfl (og_runs (rv_addB rfl rfl zb zb)) rfl zd zz.x) : A := h ⟨x⟩
theorem zbL {A B : Prop} (x : B) (h : Zz B → A := by intro zz; refine GE.q 2 rfl za rfl (qg_runs (rv_decr rfl rfl zb zb)) rfl ?_; refine GE.q 4 rfl za rfl (qg_runs (rv_field rfl)) rfl ?_; refine GE.q 5 rfl za rfl (qg_runs (rv_load1 0 rfl rfl rfl)) rfl ?_; exact GE.q 7 rfl za rfl (qg_runs (rv_move rfl)) rfl zz.x) : A := h ⟨x⟩
theorem zbM {A B : Prop} (x : B) (h : Zz B → A := by intro zz; exact G.region (G.v (rv_loadW 1 rfl rfl rfl) rfl zz.x)) : A := h ⟨x⟩
theorem zbN {A B : Prop} (x : B) (h : Zz B → A := by intro zz; exact G.op (og_callV rfl rfl (fun w hh => sound_any (r := r) w (Rd.stays h _ hh) (Rd.stays h2 _ hh) (Rd.stays h3 _ hh))) rfl zz.x) : A := h ⟨x⟩
theorem zbO {A B : Prop} (x : B) (h : Zz B → A := by intro zz; exact GE.q 3 rfl za rfl (qg_runs (rv_move rfl)) rfl zz.x) : A := h ⟨x⟩
theorem zbP {A B : Prop} (x : B) (h : Zz B → A := by intro zz; refine GE.q 0 rfl za rfl (qg_runs (rv_field rfl)) rfl ?_; exact GE.q 1 rfl za rfl (qg_runs (rv_load1 0 rfl rfl rfl)) rfl zz.x) : A := h ⟨x⟩
theorem zbQ {A B : Prop} (x : B) (h : Zz B → A := by intro zz; exact G.seq (G.region (G.v (rv_loadW 2 rfl rfl rfl) rfl zz.x))) : A := h ⟨x⟩
theorem zbR {A B : Prop} (x : B) (h : Zz B → A := by intro zz; exact G.op (og_callF1 rfl rfl (fun w hh => by have q := sl6Units_any (r := r) (pv := pv) (tv := tv) w (bounds_items (cls_sound hyes)) (bounds_lens (cls_sound hyes)).1 (Rd.stays h3 _ hh); rw [← unitsM_yes hyes] at q; exact q)) rfl zz.x) : A := h ⟨x⟩
theorem zbS {A B : Prop} (x : B) (h : Zz B → A := by intro zz; refine G.skip (G.thenN (G.block (G.seq (G.region (G.v (rv_move rfl) rfl (G.v (rv_move rfl) rfl (G.v (rv_addN rfl rfl zb) rfl (G.v (rv_conv rfl) rfl (G.v (rv_shr rfl rfl zb) rfl (G.v (rv_half (m := (i + j) / 2) rfl rfl zb zb) rfl (G.v (rv_assign rfl) rfl (G.done (G.thenN (G.seq (G.drawL [] ?_))))))))))))))); refine GE.q 0 rfl za rfl (qg_runs (rv_move rfl)) rfl ?_; refine GE.q 1 rfl za rfl (qg_runs (rv_move rfl)) rfl ?_; exact GE.q 2 rfl za rfl (qg_runs (rv_move rfl)) rfl zz.x) : A := h ⟨x⟩
theorem zbT {A B : Prop} (x : B) (h : Zz B → A := by intro zz; exact G.op0 (og_st0 rfl rfl rfl rfl rfl rfl (.zero (.cons (.cons (.cons (.cons .nil)))))) zz.x) : A := h ⟨x⟩
theorem zbU {A B : Prop} (x : B) (h : Zz B → A := by intro zz; exact GE.q 4 rfl za rfl (qg_runs (rv_move rfl)) rfl zz.x) : A := h ⟨x⟩
theorem zbV {A B : Prop} (x : B) (h : Zz B → A := by intro zz; refine G.v (rv_indexH rfl rfl ze rfl zc) rfl ?_; exact G.v (rv_fieldE rfl) rfl (G.v (rv_loadE rfl ze zc rfl) rfl zz.x)) : A := h ⟨x⟩
theorem zbW {A B : Prop} (x : B) (h : Zz B → A := by intro zz; exact G.know (fun w hw => (Rd.owned 0 rfl w hw).one_) zz.x) : A := h ⟨x⟩
theorem zbX {A B : Prop} (x : B) (h : Zz B → A := by intro zz; exact G.region (G.v (rv_move rfl) rfl (G.v (rv_incr rfl rfl zb) rfl (G.v (rv_assign rfl) rfl (G.done zz.x))))) : A := h ⟨x⟩
theorem zbY {A B : Prop} (x : B) (h : Zz B → A := by intro zz; exact G.v (rv_loadE rfl ze rfl rfl) rfl zz.x) : A := h ⟨x⟩
theorem zbZ {A B : Prop} (x : B) (h : Zz B → A := by intro zz; exact GE.t0 23 za rfl rfl rfl (og_st1 rfl rfl rfl rfl rfl rfl (.zero (.cons (.cons (.cons (.cons (.cons (.cons (.cons .nil))))))))) zz.x) : A := h ⟨x⟩
theorem zb0 {A B : Prop} (x : B) (h : Zz B → A := by intro zz; refine G.frontG1 _ rfl ?_; refine G.drawD1 [9, 10] rfl ?_; refine GE.q2 0 rfl za rfl (qg_runs (rv_move rfl)) zn rfl ?_; refine GE.q2 1 rfl za rfl (qg_runs (rv_move rfl)) zn rfl ?_; refine GE.q2 2 rfl za rfl (qg_runs (rv_move rfl)) zn rfl ?_; refine GE.q2 3 rfl za rfl (qg_runs (rv_move rfl)) zn rfl ?_; refine GE.q2 4 rfl za rfl (qg_runs (rv_indexH (k := q) rfl rfl zi zb heq)) zn rfl ?_; refine GE.q2 5 rfl za rfl (qg_runs (rv_loadE rfl zi zay rfl)) zn rfl ?_; exact GE.ol 6 za rfl rfl (og_runs (rv_load1 1 rfl rfl rfl)) rfl zj zz.x) : A := h ⟨x⟩
theorem zb1 {A B : Prop} (x : B) (h : Zz B → A := by intro zz; refine GE.q 2 rfl za rfl (qg_runs (rv_move rfl)) rfl ?_; refine GE.q 3 rfl za rfl (qg_runs (rv_indexH rfl rfl zi rfl zO)) rfl ?_; refine GE.q 4 rfl za rfl (qg_runs (rv_loadE rfl zi zO rfl)) rfl ?_; refine GE.q 5 rfl za rfl (qg_runs (rv_indexH rfl rfl ze rfl (by exact e4))) rfl ?_; refine GE.q 6 rfl za rfl (qg_runs (rv_loadE rfl ze (by exact e4) rfl)) rfl ?_; refine GE.q 7 rfl za rfl (qg_runs (rv_move rfl)) rfl ?_; refine GE.q 8 rfl za rfl (qg_runs (rv_move rfl)) rfl ?_; exact GE.ol 9 za rfl rfl (og_runs (rv_move rfl)) rfl zd zz.x) : A := h ⟨x⟩
theorem zb2 {A B : Prop} (x : B) (h : Zz B → A := by intro zz; refine G.gY rfl rfl ?_; exact G.v (rv_load1 0 rfl rfl rfl) rfl zz.x) : A := h ⟨x⟩
theorem zb3 {A B : Prop} (x : B) (h : Zz B → A := by intro zz; exact GE.done za zz.x) : A := h ⟨x⟩
theorem zb4 {A B : Prop} (x : B) (h : Zz B → A := by intro zz; exact GE.ol 8 za rfl rfl (og_callF0 rfl rfl (fun w hh => (l7Of_any (r := r) (us := us ++ [u]) w (Rd.stays h3 _ hh) zQ zw (Rd.stays h5 _ hh)).toFn)) rfl zk zz.x) : A := h ⟨x⟩
theorem zb5 {A B : Prop} (x : B) (h : Zz B → A := by intro zz; exact G.v (rv_move rfl) rfl (G.op (og_lit rfl (.cons rfl (.cons rfl (.cons rfl .nil))) rfl rfl rfl rfl rfl rfl) rfl zz.x)) : A := h ⟨x⟩
theorem zb6 {A B : Prop} (x : B) (h : Zz B → A := by intro zz; exact G.seq (G.region (G.v (rv_assign rfl) rfl (G.done (G.thenN (G.ret zz.x)))))) : A := h ⟨x⟩
theorem zb7 {A B : Prop} (x : B) (h : Zz B → A := by intro zz; exact GE.t 7 za rfl rfl rfl (og_runs (rv_nilCheckE rfl)) rfl zz.x) : A := h ⟨x⟩
theorem zb8 {A B : Prop} (x : B) (h : Zz B → A := by intro zz; exact G.seq (G.region (G.v (rv_assign rfl) rfl (G.done (G.thenN (G.block zz.x)))))) : A := h ⟨x⟩
theorem zb9 {A B : Prop} (x : B) (h : Zz B → A := by intro zz; refine G.v (rv_indexH rfl rfl ze rfl zX) rfl ?_; refine G.v (rv_loadEW rfl ze zX rfl) rfl ?_; exact G.op (og_alloc) rfl zz.x) : A := h ⟨x⟩
theorem zca {A B : Prop} (x : B) (h : Zz B → A := by intro zz; exact GE.pickOp rfl rfl rfl (og_lit rfl (.cons rfl .nil) rfl rfl rfl rfl rfl rfl) rfl zf zz.x) : A := h ⟨x⟩
theorem zcb {A B : Prop} (x : B) (h : Zz B → A := by intro zz; refine GS.q 16 [17] rfl za za (qg_runs (rv_indexH rfl rfl zg rfl zai)) rfl ?_; exact GS.o0 17 za rfl rfl (og_stE0 rfl rfl rfl zai rfl rfl rfl rfl (.zero (.cons .nil))) (fun _ _ h => h.drop 1) zz.x) : A := h ⟨x⟩
theorem zcc {A B : Prop} (x : B) (h : Zz B → A := by intro zz; exact G.v (rv_eql rfl rfl) rfl (G.v (rv_assign rfl) rfl (G.done (G.thenN zz.x)))) : A := h ⟨x⟩
theorem zcd {A B : Prop} (x : B) (h : Zz B → A := by intro zz; exact G.v (rv_addB rfl rfl zb zb) rfl zz.x) : A := h ⟨x⟩
theorem zce {A B : Prop} (x : B) (h : Zz B → A := by intro zz; exact GE.ol 11 za rfl rfl (og_lit rfl (.cons rfl .nil) rfl rfl rfl rfl rfl rfl) rfl zM zz.x) : A := h ⟨x⟩
theorem zcf {A B : Prop} (x : B) (h : Zz B → A := by intro zz; exact G.heap (fun w hh => hh.nilGrp 3 1) zz.x) : A := h ⟨x⟩
theorem zcg {A B : Prop} (x : B) (h : Zz B → A := by intro zz; exact G.v (rv_fieldE rfl) rfl zz.x) : A := h ⟨x⟩
theorem zch {A B : Prop} (x : B) (h : Zz B → A := by intro zz; exact GE.t 8 za rfl rfl rfl (og_runs (rv_fieldE rfl)) rfl zz.x) : A := h ⟨x⟩
theorem zci {A B : Prop} (x : B) (h : Zz B → A := by intro zz; refine GE.q 10 rfl za rfl (qg_runs (rv_field rfl)) rfl ?_; refine GE.q 11 rfl za rfl (qg_runs (rv_load1 0 rfl rfl rfl)) rfl ?_; exact GE.q 12 rfl za rfl (qg_runs (rv_field rfl)) rfl zz.x) : A := h ⟨x⟩
theorem zcj {A B : Prop} (x : B) (h : Zz B → A := by intro zz; refine G.gY rfl rfl ?_; exact G.v (rv_lss rfl rfl) rfl zz.x) : A := h ⟨x⟩
theorem zck {A B : Prop} (x : B) (h : Zz B → A := by intro zz; exact GE.ol 4 za rfl rfl (og_runs (rv_field rfl)) rfl zd zz.x) : A := h ⟨x⟩
theorem zcl {A B : Prop} (x : B) (h : Zz B → A := by intro zz; exact GE.ol 2 za rfl rfl (og_runs (rv_move rfl)) rfl zd zz.x) : A := h ⟨x⟩
theorem zcm {A B : Prop} (x : B) (h : Zz B → A := by intro zz; exact G.op (og_callMM1 rfl rfl rfl (ih zb (by (have hq := of_decide_eq_true hg; omega)) zb zb h3 h4 h5 (fun x x1 x2 => by rw [hf1.out x (.inr x1)]; exact hfr.lt hfn zb x2))) rfl zz.x) : A := h ⟨x⟩
theorem zcn {A B : Prop} (x : B) (h : Zz B → A := by intro zz; refine G.skip (G.thenN (G.seq (G.block (G.seq (G.region (G.v (rv_move rfl) rfl (G.v (rv_assign rfl) rfl (G.done (G.thenN (G.seq (G.region (G.v (rv_move rfl) rfl (G.v (rv_move rfl) rfl (G.v (rv_move rfl) rfl (G.v (rv_indexH rfl rfl ze rfl zc) rfl ?_))))))))))))))); refine G.v (rv_loadEW rfl ze zc rfl) rfl ?_; exact G.op (og_callV rfl rfl (fun w hh => hf w k b hh.none hb)) rfl zz.x) : A := h ⟨x⟩
theorem zco {A B : Prop} (x : B) (h : Zz B → A := by intro zz; exact G.v (rv_assign rfl) rfl (G.done (G.thenN (G.ret zz.x)))) : A := h ⟨x⟩
theorem zcp {A B : Prop} (x : B) (h : Zz B → A := by intro zz; refine GE.q 2 rfl za rfl (qg_runs (rv_field rfl)) rfl ?_; refine GE.q 3 rfl za rfl (qg_runs (rv_load1 0 rfl rfl rfl)) rfl ?_; refine GE.q 4 rfl za rfl (qg_runs (rv_field rfl)) rfl ?_; exact GE.q 5 rfl za rfl (qg_runs (rv_load1 0 rfl rfl rfl)) rfl zz.x) : A := h ⟨x⟩
theorem zcq {A B : Prop} (x : B) (h : Zz B → A := by intro zz; exact GE.ol 9 za rfl rfl (og_app1 rfl rfl rfl zg rfl rfl zh zh) rfl zf zz.x) : A := h ⟨x⟩
theorem zcr {A B : Prop} (x : B) (h : Zz B → A := by intro zz; exact G.know (fun w hw => (Rd.owned 1 rfl (v := va) w hw).one_) zz.x) : A := h ⟨x⟩
theorem zcs {A B : Prop} (x : B) (h : Zz B → A := by intro zz; refine G.drawL [] ?_; exact GE.ol 0 za rfl rfl (og_runs (rv_move rfl)) rfl zd zz.x) : A := h ⟨x⟩
theorem zct {A B : Prop} (x : B) (h : Zz B → A := by intro zz; exact G.seq (G.region zz.x)) : A := h ⟨x⟩
theorem zcu {A B : Prop} (x : B) (h : Zz B → A := by intro zz; exact G.seq (G.seq (G.region (G.v (rv_move rfl) rfl (G.v (rv_move rfl) rfl zz.x))))) : A := h ⟨x⟩
theorem zcv {A B : Prop} (x : B) (h : Zz B → A := by intro zz; exact GE.pickOp rfl rfl rfl (og_lit rfl (.cons rfl .nil) rfl rfl rfl rfl rfl rfl) rfl zj zz.x) : A := h ⟨x⟩
theorem zcw {A B : Prop} (x : B) (h : Zz B → A := by intro zz; refine G.gY rfl rfl ?_; exact G.op (og_callV rfl rfl (fun w _ => isSide_any _ w)) rfl zz.x) : A := h ⟨x⟩
theorem zcx {A B : Prop} (x : B) (h : Zz B → A := by intro zz; refine G.gY rfl rfl ?_; exact G.op (og_callV rfl rfl (fun w _ => l2Side_any _ w)) rfl zz.x) : A := h ⟨x⟩
theorem zcy {A B : Prop} (x : B) (h : Zz B → A := by intro zz; refine GE.q 7 rfl za rfl (qg_runs (rv_move rfl)) rfl ?_; refine GE.q 8 rfl za rfl (qg_runs (rv_extract rfl rfl)) rfl ?_; refine GE.q 9 rfl za rfl (qg_runs (rv_extract rfl rfl)) rfl ?_; exact GE.ol 10 za rfl rfl (og_alloc) rfl zj zz.x) : A := h ⟨x⟩
theorem zcA {A B : Prop} (x : B) (h : Zz B → A := by intro zz; refine GE.q 0 rfl za rfl (qg_runs (rv_field rfl)) rfl ?_; exact GE.q 1 rfl za rfl (qg_runs (rv_load1 1 rfl rfl rfl)) rfl zz.x) : A := h ⟨x⟩
theorem zcB {A B : Prop} (x : B) (h : Zz B → A := by intro zz; exact GE.ol 12 za rfl rfl (og_app4 rfl rfl rfl zg rfl rfl zae zae) rfl zM zz.x) : A := h ⟨x⟩
theorem zcC {A B : Prop} (x : B) (h : Zz B → A := by intro zz; exact G.op (og_app3 rfl rfl rfl zg rfl rfl zh zh) rfl zz.x) : A := h ⟨x⟩
theorem zcD {A B : Prop} (x : B) (h : Zz B → A := by intro zz; exact G.v (rv_assign rfl) rfl zz.x) : A := h ⟨x⟩
theorem zcE {A B : Prop} (x : B) (h : Zz B → A := by intro zz; refine GE.q2 13 rfl za rfl (qg_runs (rv_addB rfl rfl zb zb)) zt rfl ?_; exact GE.ol 17 za rfl rfl (og_callM0 rfl rfl rfl (l1Below_any _ zc zc).toF) rfl zf zz.x) : A := h ⟨x⟩
theorem zcF {A B : Prop} (x : B) (h : Zz B → A := by intro zz; refine G.gY rfl rfl ?_; exact G.v (rv_not rfl) rfl zz.x) : A := h ⟨x⟩
theorem zcG {A B : Prop} (x : B) (h : Zz B → A := by intro zz; refine GS.p 0 rfl za (qg_runs (rv_move rfl)) (fun _ h => h.drop 1) rfl ?_; refine GS.p 1 rfl za (qg_runs (rv_move rfl)) (fun _ h => h.drop 1) rfl ?_; exact GS.p 2 rfl za (qg_runs (rv_move rfl)) (fun _ h => h.drop 1) rfl zz.x) : A := h ⟨x⟩
theorem zcH {A B : Prop} (x : B) (h : Zz B → A := by intro zz; refine G.skip (G.thenN (G.seq (G.drawL [6] ?_))); refine GE.q 0 rfl za rfl (qg_runs (rv_loadW 0 rfl rfl rfl)) rfl ?_; refine GE.q 1 rfl za rfl (qg_runs (rv_loadW 0 rfl rfl rfl)) rfl ?_; refine GE.q 3 rfl za rfl (qg_runs (rv_move rfl)) rfl ?_; exact GE.ol 2 za rfl rfl (og_callF1 rfl rfl (fun w hh => by have q := sl6Units_any (r := r) (pv := pv) (tv := tv) w (bounds_items (cls_sound hyes)) (bounds_lens (cls_sound hyes)).1 (Rd.stays h3 _ hh); rw [← unitsM_yes hyes] at q; exact q)) rfl zj zz.x) : A := h ⟨x⟩
theorem zcI {A B : Prop} (x : B) (h : Zz B → A := by intro zz; exact G.v (rv_not rfl) rfl (G.done (G.thenN zz.x))) : A := h ⟨x⟩
theorem zcJ {A B : Prop} (x : B) (h : Zz B → A := by intro zz; exact G.op0 (og_st1 rfl rfl rfl rfl rfl rfl (.zero (.cons (.cons (.cons (.cons (.cons (.cons (.cons .nil))))))))) zz.x) : A := h ⟨x⟩
theorem zcK {A B : Prop} (x : B) (h : Zz B → A := by intro zz; exact G.seq (G.region (G.v (rv_assign rfl) rfl (G.done (G.thenN (G.seq (G.seq (G.region (G.v (rv_move rfl) rfl zz.x))))))))) : A := h ⟨x⟩
theorem zcL {A B : Prop} (x : B) (h : Zz B → A := by intro zz; exact G.seq (G.region (G.v (rv_move rfl) rfl (G.v (rv_build2 rfl .nil .nil) rfl (G.op (og_lit rfl (.cons rfl .nil) zat rfl rfl rfl rfl rfl) rfl zz.x))))) : A := h ⟨x⟩
theorem zcM {A B : Prop} (x : B) (h : Zz B → A := by intro zz; exact GE.knowD (fun w hw => (Rd.owned 4 rfl (v := tv1) w hw).one_) zz.x) : A := h ⟨x⟩
theorem zcN {A B : Prop} (x : B) (h : Zz B → A := by intro zz; exact G.know (fun w hw => (Rd.grp 1 rfl (List.mem_of_getElem? (get_set1 hgi)) w hw).one_) zz.x) : A := h ⟨x⟩
theorem zcO {A B : Prop} (x : B) (h : Zz B → A := by intro zz; exact GE.q 2 rfl za rfl (qg_runs (rv_move rfl)) rfl zz.x) : A := h ⟨x⟩
theorem zcP {A B : Prop} (x : B) (h : Zz B → A := by intro zz; exact G.v (rv_lss rfl rfl) rfl (G.v (rv_move rfl) rfl zz.x)) : A := h ⟨x⟩
theorem zcQ {A B : Prop} (x : B) (h : Zz B → A := by intro zz; exact G.v (rv_assign rfl) rfl (G.done (G.thenN (G.seq (G.region (G.v (rv_move rfl) rfl (G.v (rv_move rfl) rfl zz.x))))))) : A := h ⟨x⟩
theorem zcR {A B : Prop} (x : B) (h : Zz B → A := by intro zz; exact GE.pickOp rfl rfl rfl (og_callM0 rfl rfl rfl (l1Below_any _ zc zc).toF) rfl zj zz.x) : A := h ⟨x⟩
theorem zcS {A B : Prop} (x : B) (h : Zz B → A := by intro zz; exact G.op (og_callM1 rfl rfl rfl (l1PickInt_any zg rfl rfl zc zc)) rfl zz.x) : A := h ⟨x⟩
theorem zcT {A B : Prop} (x : B) (h : Zz B → A := by intro zz; exact G.v (rv_build2 rfl (.cons rfl (.cons rfl .nil)) (.cons rfl rfl (.zero (.cons .nil)) (.cons rfl rfl (.succ (.zero (.cons .nil))) .nil))) rfl zz.x) : A := h ⟨x⟩
theorem zcU {A B : Prop} (x : B) (h : Zz B → A := by intro zz; refine GE.q 4 rfl za rfl (qg_runs (rv_subN rfl rfl zb zb)) rfl ?_; refine GE.q 5 rfl za rfl (qg_runs (rv_indexH rfl rfl zg rfl (by exact ep))) rfl ?_; refine GE.q 6 rfl za rfl (qg_runs (rv_loadE rfl zg (by exact ep) rfl)) rfl ?_; refine GE.q 7 rfl za rfl (qg_runs (rv_move rfl)) rfl ?_; exact GE.ol 8 za rfl rfl (og_runs (rv_move rfl)) rfl zd zz.x) : A := h ⟨x⟩
theorem zcV {A B : Prop} (x : B) (h : Zz B → A := by intro zz; exact GE.ol 19 za rfl rfl (og_callM0 rfl rfl rfl (l1Below_any _ zc zc).toF) rfl zf zz.x) : A := h ⟨x⟩
theorem zcW {A B : Prop} (x : B) (h : Zz B → A := by intro zz; refine G.v (rv_len rfl ze) rfl ?_; exact G.v (rv_lss rfl rfl) rfl (G.done (G.thenN zz.x))) : A := h ⟨x⟩
theorem zcX {A B : Prop} (x : B) (h : Zz B → A := by intro zz; exact G.exit (G.thenX (G.thenX (G.inX (G.thenN (G.seq (G.region (G.v (rv_move rfl) rfl (G.v (rv_assign rfl) rfl (G.done (G.thenN (G.ret zz.x)))))))))))) : A := h ⟨x⟩
theorem zcY {A B : Prop} (x : B) (h : Zz B → A := by intro zz; exact GE.ol 19 za rfl rfl (og_callV rfl rfl (fun w _ => l1Max_any _ _ w)) rfl zf zz.x) : A := h ⟨x⟩
theorem zcZ {A B : Prop} (x : B) (h : Zz B → A := by intro zz; exact G.exit (G.thenX (G.thenX (G.inX zz.x)))) : A := h ⟨x⟩
theorem zc0 {A B : Prop} (x : B) (h : Zz B → A := by intro zz; exact G.v (rv_len rfl zi) rfl zz.x) : A := h ⟨x⟩
theorem zc1 {A B : Prop} (x : B) (h : Zz B → A := by intro zz; exact G.skip (G.thenN zz.x)) : A := h ⟨x⟩
theorem zc2 {A B : Prop} (x : B) (h : Zz B → A := by intro zz; exact G.done (G.thenN (G.ret zz.x))) : A := h ⟨x⟩
theorem zc3 {A B : Prop} (x : B) (h : Zz B → A := by intro zz; exact GE.t 12 za rfl rfl rfl (og_runs (rv_assign rfl)) rfl zz.x) : A := h ⟨x⟩
theorem zc4 {A B : Prop} (x : B) (h : Zz B → A := by intro zz; exact G.op (og_lit rfl (.cons (cells_one zc) .nil) zG rfl rfl rfl rfl rfl) rfl zz.x) : A := h ⟨x⟩
theorem zc5 {A B : Prop} (x : B) (h : Zz B → A := by intro zz; exact G.know (fun w hw => (Rd.grp 0 rfl (List.mem_of_getElem? hgi) w hw).one_) zz.x) : A := h ⟨x⟩
theorem zc6 {A B : Prop} (x : B) (h : Zz B → A := by intro zz; exact GE.ol 20 za rfl rfl (og_runs (rv_addB rfl rfl zb zb)) rfl zf zz.x) : A := h ⟨x⟩
theorem zc7 {A B : Prop} (x : B) (h : Zz B → A := by intro zz; exact GE.q 1 rfl za rfl (qg_runs (rv_move rfl)) rfl zz.x) : A := h ⟨x⟩
theorem zc8 {A B : Prop} (x : B) (h : Zz B → A := by intro zz; exact GE.t 13 za rfl rfl rfl (og_runs (rv_field rfl)) rfl zz.x) : A := h ⟨x⟩
theorem zc9 {A B : Prop} (x : B) (h : Zz B → A := by intro zz; exact GE.pickOp rfl rfl rfl (og_lit rfl .nil rfl rfl rfl rfl rfl rfl) rfl zj zz.x) : A := h ⟨x⟩
theorem zda {A B : Prop} (x : B) (h : Zz B → A := by intro zz; exact G.op (og_lit rfl .nil zat rfl rfl rfl rfl rfl) rfl zz.x) : A := h ⟨x⟩
theorem zdb {A B : Prop} (x : B) (h : Zz B → A := by intro zz; exact G.v (rv_move rfl) rfl (G.op (og_callF1 rfl rfl (fun w hh => itemsOf_any (r := r) (us := us) w (Rd.stays h _ hh) (Rd.stays h2 _ hh) (Rd.stays h3 _ hh) (Rd.stays h4 _ hh) hul)) rfl zz.x)) : A := h ⟨x⟩
theorem zdc {A B : Prop} (x : B) (h : Zz B → A := by intro zz; exact G.op (og_box rfl rfl) rfl zz.x) : A := h ⟨x⟩
theorem zdd {A B : Prop} (x : B) (h : Zz B → A := by intro zz; exact G.frontR0 (v) rfl zz.x) : A := h ⟨x⟩
theorem zde {A B : Prop} (x : B) (h : Zz B → A := by intro zz; exact G.v (rv_len rfl zg) rfl zz.x) : A := h ⟨x⟩
theorem zdf {A B : Prop} (x : B) (h : Zz B → A := by intro zz; exact G.v (rv_subB rfl rfl zb zb) rfl zz.x) : A := h ⟨x⟩
theorem zdg {A B : Prop} (x : B) (h : Zz B → A := by intro zz; exact GE.q 17 rfl za rfl (qg_runs (rv_move rfl)) rfl zz.x) : A := h ⟨x⟩
theorem zdh {A B : Prop} (x : B) (h : Zz B → A := by intro zz; exact GE.ol 8 za rfl rfl (og_lit rfl (.cons rfl .nil) rfl rfl rfl rfl rfl rfl) rfl zf zz.x) : A := h ⟨x⟩
theorem zdi {A B : Prop} (x : B) (h : Zz B → A := by intro zz; refine G.frontR2 vl rfl ?_; refine G.pushRow _ push_sub rfl ?_; exact G.v (rv_assign rfl) rfl (G.done zz.x)) : A := h ⟨x⟩
theorem zdj {A B : Prop} (x : B) (h : Zz B → A := by intro zz; refine G.drawL [32] ?_; refine GE.q 0 rfl za rfl (qg_runs (rv_move rfl)) rfl ?_; refine GE.q 1 rfl za rfl (qg_runs (rv_indexH rfl rfl zi rfl rfl)) rfl ?_; refine GE.q 2 rfl za rfl (qg_runs (rv_loadE rfl zi rfl rfl)) rfl ?_; exact GE.ol 3 za rfl rfl (og_runs (rv_move rfl)) rfl zd zz.x) : A := h ⟨x⟩
theorem zdk {A B : Prop} (x : B) (h : Zz B → A := by intro zz; refine GE.q 2 rfl za rfl (qg_runs (rv_indexH rfl rfl zA rfl (by exact heg))) rfl ?_; refine GE.q 3 rfl za rfl (qg_runs (rv_loadE rfl zA (by exact heg) rfl)) rfl ?_; refine GE.q 4 rfl za rfl (qg_runs (rv_field rfl)) rfl ?_; exact GE.q 5 rfl za rfl (qg_runs (rv_load1 4 rfl rfl rfl)) rfl zz.x) : A := h ⟨x⟩
theorem zdl {A B : Prop} (x : B) (h : Zz B → A := by intro zz; exact GE.ol 9 za rfl rfl (og_runs (rv_build2 rfl (.cons rfl (.cons rfl (.cons rfl (.cons rfl .nil)))) (.cons rfl rfl (.zero (.cons .nil)) (.cons rfl rfl (.succ (.zero (.cons .nil))) (.cons rfl rfl (.succ (.succ (.zero (.cons .nil)))) (.cons rfl rfl (.succ (.succ (.succ (.zero (.cons .nil))))) .nil)))))) rfl zd zz.x) : A := h ⟨x⟩
theorem zdm {A B : Prop} (x : B) (h : Zz B → A := by intro zz; refine GE.q2 10 rfl za rfl (qg_runs (rv_addB rfl rfl zb zb)) zt rfl ?_; exact GE.ol 12 za rfl rfl (og_callM0 rfl rfl rfl (l1Below_any _ zc zc).toF) rfl zf zz.x) : A := h ⟨x⟩
theorem zdn {A B : Prop} (x : B) (h : Zz B → A := by intro zz; exact G.op (og_callMM1 rfl rfl rfl (ih zb (by (have hq := of_decide_eq_true hg; omega)) zb zb hmid.s1 hmid.s2 hmid.c1 (fun x x1 x2 => hfr.lt hfn x1 zb))) rfl zz.x) : A := h ⟨x⟩
theorem zdo {A B : Prop} (x : B) (h : Zz B → A := by intro zz; exact G.v (rv_nilCheckE rfl) rfl (G.v (rv_fieldE rfl) rfl zz.x)) : A := h ⟨x⟩
theorem zdp {A B : Prop} (x : B) (h : Zz B → A := by intro zz; exact GE.pickOp rfl rfl rfl (og_alloc) rfl zf zz.x) : A := h ⟨x⟩
theorem zdq {A B : Prop} (x : B) (h : Zz B → A := by intro zz; exact GE.qn 12 rfl za rfl rfl zz.x) : A := h ⟨x⟩
theorem zdr {A B : Prop} (x : B) (h : Zz B → A := by intro zz; exact GE.qn 13 rfl za rfl rfl zz.x) : A := h ⟨x⟩
theorem zds {A B : Prop} (x : B) (h : Zz B → A := by intro zz; exact GE.t 9 za rfl rfl rfl (og_runs (rv_fieldE rfl)) rfl zz.x) : A := h ⟨x⟩
theorem zdt {A B : Prop} (x : B) (h : Zz B → A := by intro zz; exact GE.ol 5 za rfl rfl (og_runs (rv_load1 4 rfl rfl rfl)) rfl zd zz.x) : A := h ⟨x⟩
theorem zdu {A B : Prop} (x : B) (h : Zz B → A := by intro zz; exact GE.ol 5 za rfl rfl (og_runs (rv_load1 1 rfl rfl rfl)) rfl zd zz.x) : A := h ⟨x⟩
theorem zdv {A B : Prop} (x : B) (h : Zz B → A := by intro zz; exact GE.ol 6 za rfl rfl (og_runs (rv_field rfl)) rfl zd zz.x) : A := h ⟨x⟩
theorem zdw {A B : Prop} (x : B) (h : Zz B → A := by intro zz; exact G.v (rv_load1 1 rfl rfl rfl) rfl zz.x) : A := h ⟨x⟩
theorem zdx {A B : Prop} (x : B) (h : Zz B → A := by intro zz; exact G.skip (G.thenN (G.seq (G.block (G.seq (G.region zz.x)))))) : A := h ⟨x⟩
theorem zdy {A B : Prop} (x : B) (h : Zz B → A := by intro zz; exact G.v (rv_eql rfl rfl) rfl (G.done (G.thenN zz.x))) : A := h ⟨x⟩
theorem zdA {A B : Prop} (x : B) (h : Zz B → A := by intro zz; exact GE.q2 0 rfl za rfl (qg_runs (rv_move rfl)) zn rfl zz.x) : A := h ⟨x⟩
theorem zdB {A B : Prop} (x : B) (h : Zz B → A := by intro zz; exact G.frontB1 cb rfl zz.x) : A := h ⟨x⟩
theorem zdC {A B : Prop} (x : B) (h : Zz B → A := by intro zz; refine G.v (rv_move rfl) rfl (G.v (rv_indexH rfl rfl zm rfl zE) rfl ?_); exact G.v (rv_loadE rfl zm zE rfl) rfl zz.x) : A := h ⟨x⟩
theorem zdD {A B : Prop} (x : B) (h : Zz B → A := by intro zz; refine G.v (rv_move rfl) rfl (G.v (rv_indexH rfl rfl zi rfl zO) rfl ?_); exact G.v (rv_loadE rfl zi zO rfl) rfl zz.x) : A := h ⟨x⟩
theorem zdE {A B : Prop} (x : B) (h : Zz B → A := by intro zz; exact G.seq (G.region (G.v (rv_build2 rfl .nil .nil) rfl zz.x))) : A := h ⟨x⟩
theorem zdF {A B : Prop} (x : B) (h : Zz B → A := by intro zz; exact GE.qn 11 rfl za rfl rfl zz.x) : A := h ⟨x⟩
theorem zdG {A B : Prop} (x : B) (h : Zz B → A := by intro zz; exact G.v (rv_len rfl zm) rfl zz.x) : A := h ⟨x⟩
theorem zdH {A B : Prop} (x : B) (h : Zz B → A := by intro zz; exact G.region (G.v (rv_move rfl) rfl (G.v (rv_move rfl) rfl (G.v (rv_move rfl) rfl zz.x)))) : A := h ⟨x⟩
theorem zdI {A B : Prop} (x : B) (h : Zz B → A := by intro zz; exact G.op (og_app2 rfl rfl rfl zg rfl rfl zh zh) rfl zz.x) : A := h ⟨x⟩
theorem zdJ {A B : Prop} (x : B) (h : Zz B → A := by intro zz; exact G.v (rv_field rfl) rfl (G.v (rv_load1 0 rfl rfl rfl) rfl zz.x)) : A := h ⟨x⟩
theorem zdK {A B : Prop} (x : B) (h : Zz B → A := by intro zz; exact G.v (rv_gtr rfl rfl) rfl zz.x) : A := h ⟨x⟩
theorem zdL {A B : Prop} (x : B) (h : Zz B → A := by intro zz; exact GE.q 2 rfl za rfl (qg_runs (rv_field rfl)) rfl zz.x) : A := h ⟨x⟩
theorem zdM {A B : Prop} (x : B) (h : Zz B → A := by intro zz; exact G.seq (G.region (G.v (rv_assign rfl) rfl (G.done (G.thenN (G.ret (G.thenR zz.x))))))) : A := h ⟨x⟩
theorem zdN {A B : Prop} (x : B) (h : Zz B → A := by intro zz; exact G.v (rv_makeFunc rfl rfl) rfl zz.x) : A := h ⟨x⟩
theorem zdO {A B : Prop} (x : B) (h : Zz B → A := by intro zz; exact GE.t 8 za rfl rfl rfl (og_runs (rv_nilCheckE rfl)) rfl zz.x) : A := h ⟨x⟩
theorem zdP {A B : Prop} (x : B) (h : Zz B → A := by intro zz; exact GE.pickOp rfl rfl rfl (og_alloc) rfl zk zz.x) : A := h ⟨x⟩
theorem zdQ {A B : Prop} (x : B) (h : Zz B → A := by intro zz; exact GE.q 6 rfl za rfl (qg_runs (rv_move rfl)) rfl zz.x) : A := h ⟨x⟩
theorem zdR {A B : Prop} (x : B) (h : Zz B → A := by intro zz; exact G.region (G.v (rv_move rfl) rfl (G.v (rv_move rfl) rfl zz.x))) : A := h ⟨x⟩
theorem zdS {A B : Prop} (x : B) (h : Zz B → A := by intro zz; exact G.v (rv_assign rfl) rfl (G.done (G.thenN (G.seq (G.region (G.v (rv_move rfl) rfl zz.x)))))) : A := h ⟨x⟩
theorem zdT {A B : Prop} (x : B) (h : Zz B → A := by intro zz; exact GE.qn 10 rfl za rfl rfl zz.x) : A := h ⟨x⟩
theorem zdU {A B : Prop} (x : B) (h : Zz B → A := by intro zz; exact G.op (og_callMM1 rfl rfl rfl (ih zb zb zb zb h3 h4 h5 (fun x x1 x2 => by rw [hf1.out x (.inr x1)]; exact hfr.lt hfn zb x2))) rfl zz.x) : A := h ⟨x⟩
theorem zdV {A B : Prop} (x : B) (h : Zz B → A := by intro zz; refine G.v (rv_indexH rfl rfl zm rfl zaq) rfl ?_; exact G.v (rv_loadE rfl zm zaq rfl) rfl zz.x) : A := h ⟨x⟩
theorem zdW {A B : Prop} (x : B) (h : Zz B → A := by intro zz; exact G.v (rv_geq rfl rfl) rfl zz.x) : A := h ⟨x⟩
theorem zdX {A B : Prop} (x : B) (h : Zz B → A := by intro zz; exact G.op (og_appG1 rfl rfl rfl hgi zg rfl rfl zh zh) rfl zz.x) : A := h ⟨x⟩
theorem zdY {A B : Prop} (x : B) (h : Zz B → A := by intro zz; exact GE.ol 7 za rfl rfl (og_runs (rv_max rfl rfl)) rfl zd zz.x) : A := h ⟨x⟩
theorem zdZ {A B : Prop} (x : B) (h : Zz B → A := by intro zz; refine G.v (rv_move rfl) rfl (G.v (rv_sliceH rfl rfl ze zb) rfl ?_); exact G.v (rv_move rfl) rfl (G.op (og_callF1 rfl rfl (fun w hh => ih w zad (Rd.stays hk _ hh) (Rd.subH (Rd.stays hp _ hh) zb) (fun x hx => hlt x (List.mem_of_mem_take hx)) (hpw.sublist (List.take_sublist _ _)) zad)) rfl zz.x)) : A := h ⟨x⟩
theorem zd0 {A B : Prop} (x : B) (h : Zz B → A := by intro zz; refine G.v (rv_move rfl) rfl (G.v (rv_sliceL rfl rfl ze zb) rfl ?_); exact G.v (rv_move rfl) rfl (G.op (og_callF1 rfl rfl (fun w hh => ih w zaG (Rd.stays hk _ hh) (Rd.subL (Rd.stays hp _ hh) zb) (fun x hx => hlt x (List.mem_of_mem_drop hx)) (hpw.sublist (List.drop_sublist _ _)) zaG)) rfl zz.x)) : A := h ⟨x⟩
theorem zd1 {A B : Prop} (x : B) (h : Zz B → A := by intro zz; exact GE.t0 10 za rfl rfl rfl (og_st1 rfl rfl rfl rfl rfl rfl (.zero (.cons (.cons .nil)))) zz.x) : A := h ⟨x⟩
theorem zd2 {A B : Prop} (x : B) (h : Zz B → A := by intro zz; exact GE.ol0 11 za rfl rfl (og_st0 rfl rfl rfl rfl rfl rfl (.zero (.cons (.cons (.cons (.cons (.cons (.cons (.cons .nil))))))))) zj zz.x) : A := h ⟨x⟩
theorem zd3 {A B : Prop} (x : B) (h : Zz B → A := by intro zz; refine G.v (rv_indexH rfl rfl ze rfl zc) rfl ?_; exact G.v (rv_loadE rfl ze zc rfl) rfl zz.x) : A := h ⟨x⟩
theorem zd4 {A B : Prop} (x : B) (h : Zz B → A := by intro zz; refine G.frontR3 vr rfl ?_; refine G.rowEq (us.map LayerM.cells) (by rw [hus, htt]; simp [LayerM.cells, layZ]) rfl ?_; refine G.frontG3 _ rfl ?_; exact G.pushNil (us.map (sub LayerM.l)) (by rw [hus, htt]; simp [sub, layZ]) rfl zz.x) : A := h ⟨x⟩
theorem zd5 {A B : Prop} (x : B) (h : Zz B → A := by intro zz; refine G.frontR3 vr rfl ?_; refine G.rowEq (us.map LoadM.cells) (by rw [hus, htt]; simp [LoadM.cells, loadZ]) rfl ?_; refine G.frontG3 _ rfl ?_; exact G.pushNil (us.map (sub LoadM.l)) (by rw [hus, htt]; simp [sub, loadZ]) rfl zz.x) : A := h ⟨x⟩
theorem zd6 {A B : Prop} (x : B) (h : Zz B → A := by intro zz; exact G.v (rv_loadW 3 rfl rfl rfl) rfl zz.x) : A := h ⟨x⟩
theorem zd7 {A B : Prop} (x : B) (h : Zz B → A := by intro zz; exact G.op (og_callF2 rfl rfl (fun w hh => sgroupsOf_any (r := r) w (Rd.stays h _ hh) (Rd.stays h2 _ hh) (Rd.stays h3 _ hh))) rfl zz.x) : A := h ⟨x⟩
theorem zd8 {A B : Prop} (x : B) (h : Zz B → A := by intro zz; exact G.v (rv_assign rfl) rfl (G.done (G.thenN (G.seq (G.seq (G.region (G.v (rv_assign rfl) rfl (G.done (G.thenN (G.block zz.x)))))))))) : A := h ⟨x⟩
theorem zd9 {A B : Prop} (x : B) (h : Zz B → A := by intro zz; exact GE.qn 8 rfl za rfl rfl zz.x) : A := h ⟨x⟩
theorem zea {A B : Prop} (x : B) (h : Zz B → A := by intro zz; exact GE.qn 9 rfl za rfl rfl zz.x) : A := h ⟨x⟩
theorem zeb {A B : Prop} (x : B) (h : Zz B → A := by intro zz; exact G.op (og_callF2 rfl rfl (fun w hh => groupsOf_any (r := r) w (Rd.stays h _ hh) (Rd.stays h2 _ hh) (Rd.stays h3 _ hh))) rfl zz.x) : A := h ⟨x⟩
theorem zec {A B : Prop} (x : B) (h : Zz B → A := by intro zz; exact GE.ol 5 za rfl rfl (og_runs (rv_field rfl)) rfl zd zz.x) : A := h ⟨x⟩
theorem zed {A B : Prop} (x : B) (h : Zz B → A := by intro zz; exact G.op (og_callF1 rfl rfl (fun w hh => units_any (r := r) w (Rd.stays h _ hh) (Rd.stays h2 _ hh) (Rd.stays h3 _ hh))) rfl zz.x) : A := h ⟨x⟩
theorem zee {A B : Prop} (x : B) (h : Zz B → A := by intro zz; exact G.skip (G.thenN (G.seq (G.block (G.seq (G.region (G.v (rv_move rfl) rfl zz.x))))))) : A := h ⟨x⟩
theorem zef {A B : Prop} (x : B) (h : Zz B → A := by intro zz; exact G.v (rv_subN rfl rfl zb zb) rfl zz.x) : A := h ⟨x⟩
theorem zeg {A B : Prop} (x : B) (h : Zz B → A := by intro zz; exact G.v (rv_decr rfl rfl zb zb) rfl zz.x) : A := h ⟨x⟩
theorem zeh {A B : Prop} (x : B) (h : Zz B → A := by intro zz; exact GE.qn 17 rfl za rfl rfl zz.x) : A := h ⟨x⟩
theorem zei {A B : Prop} (x : B) (h : Zz B → A := by intro zz; exact G.op0 (og_st0 rfl rfl rfl rfl rfl rfl (.zero (.cons .nil))) zz.x) : A := h ⟨x⟩
theorem zej {A B : Prop} (x : B) (h : Zz B → A := by intro zz; exact G.v (rv_add rfl rfl) rfl zz.x) : A := h ⟨x⟩
theorem zek {A B : Prop} (x : B) (h : Zz B → A := by intro zz; exact GE.q 11 rfl za rfl (qg_runs (rv_field rfl)) rfl zz.x) : A := h ⟨x⟩
theorem zel {A B : Prop} (x : B) (h : Zz B → A := by intro zz; exact G.op (og_callM0 rfl rfl rfl (l1Below_any _ zc zc).toF) rfl zz.x) : A := h ⟨x⟩
theorem zem {A B : Prop} (x : B) (h : Zz B → A := by intro zz; exact G.v (rv_not rfl) rfl (G.v (rv_move rfl) rfl zz.x)) : A := h ⟨x⟩
theorem zen {A B : Prop} (x : B) (h : Zz B → A := by intro zz; refine G.v (rv_move rfl) rfl (G.v (rv_indexH (k := q) rfl rfl zi zb heq) rfl ?_); refine G.v (rv_loadE rfl zi zay rfl) rfl ?_; exact G.v (rv_move rfl) rfl zz.x) : A := h ⟨x⟩
theorem zeo {A B : Prop} (x : B) (h : Zz B → A := by intro zz; exact GE.q 9 rfl za rfl (qg_runs (rv_field rfl)) rfl zz.x) : A := h ⟨x⟩
theorem zep {A B : Prop} (x : B) (h : Zz B → A := by intro zz; exact G.know (fun w hw => (Rd.owned 0 rfl (v := va) w hw).one_) zz.x) : A := h ⟨x⟩
theorem zeq {A B : Prop} (x : B) (h : Zz B → A := by intro zz; refine G.frontR2 va rfl ?_; refine G.frontG1 _ rfl ?_; exact G.keep2 1 rfl zz.x) : A := h ⟨x⟩
theorem zer {A B : Prop} (x : B) (h : Zz B → A := by intro zz; refine G.frontR2 v2 rfl ?_; refine G.frontG2 _ rfl ?_; exact G.keep2 1 rfl zz.x) : A := h ⟨x⟩
theorem zes {A B : Prop} (x : B) (h : Zz B → A := by intro zz; exact GE.q 0 rfl za rfl (qg_runs (rv_move rfl)) rfl zz.x) : A := h ⟨x⟩
theorem zet {A B : Prop} (x : B) (h : Zz B → A := by intro zz; exact GE.q 5 rfl za rfl (qg_runs (rv_move rfl)) rfl zz.x) : A := h ⟨x⟩
theorem zeu {A B : Prop} (x : B) (h : Zz B → A := by intro zz; exact G.v (rv_build2 rfl (.cons rfl (.cons rfl (.cons (cells_one zc) .nil))) (.cons rfl rfl (.zero (.cons .nil)) (.cons rfl rfl (.succ (.zero (.cons .nil))) (.cons rfl rfl (.succ (.succ (.zero (.cons .nil)))) .nil)))) rfl zz.x) : A := h ⟨x⟩
theorem zev {A B : Prop} (x : B) (h : Zz B → A := by intro zz; exact GE.ol 15 za rfl rfl (og_runs (rv_pickT rfl rfl)) rfl zd zz.x) : A := h ⟨x⟩
theorem zew {A B : Prop} (x : B) (h : Zz B → A := by intro zz; exact GE.ol 15 za rfl rfl (og_runs (rv_pickF rfl rfl)) rfl zd zz.x) : A := h ⟨x⟩
theorem zex {A B : Prop} (x : B) (h : Zz B → A := by intro zz; exact G.op (og_callM0 rfl rfl rfl (l1Byte_any zc zc).toF) rfl zz.x) : A := h ⟨x⟩
theorem zey {A B : Prop} (x : B) (h : Zz B → A := by intro zz; exact GE.qn 14 rfl za rfl rfl zz.x) : A := h ⟨x⟩
theorem zeA {A B : Prop} (x : B) (h : Zz B → A := by intro zz; exact G.seq (G.seq (G.region (G.v (rv_move rfl) rfl zz.x)))) : A := h ⟨x⟩
theorem zeB {A B : Prop} (x : B) (h : Zz B → A := by intro zz; refine G.frontB1 bk6 rfl ?_; exact G.keep1 1 rfl zz.x) : A := h ⟨x⟩
theorem zeC {A B : Prop} (x : B) (h : Zz B → A := by intro zz; exact G.done (G.thenN (G.seq (G.region (G.v (rv_move rfl) rfl zz.x))))) : A := h ⟨x⟩
theorem zeD {A B : Prop} (x : B) (h : Zz B → A := by intro zz; exact G.op (og_callV rfl rfl (fun w hh => (indexType_any w (Rd.stays h2 _ hh) (fun w' k b hw hb => typeById1_any id b w' (Rd.stays (by exact Rd.ofBlk 1 rfl rfl w hh) w' hw))).mono (congrArg (Value.int .i64) hi))) rfl zz.x) : A := h ⟨x⟩
theorem zeE {A B : Prop} (x : B) (h : Zz B → A := by intro zz; refine G.v (rv_indexH rfl rfl (by exact Rd.grp 4 rfl (List.mem_of_getElem? hg2)) rfl (by exact hek)) rfl ?_; exact G.v (rv_loadE rfl (by exact Rd.grp 4 rfl (List.mem_of_getElem? hg2)) (by exact hek) rfl) rfl zz.x) : A := h ⟨x⟩
theorem zeF {A B : Prop} (x : B) (h : Zz B → A := by intro zz; exact G.done (G.thenN (G.ret (G.retFV rfl rfl zz.x)))) : A := h ⟨x⟩
theorem zeG {A B : Prop} (x : B) (h : Zz B → A := by intro zz; exact G.v (rv_neq rfl rfl) rfl (G.done (G.thenN zz.x))) : A := h ⟨x⟩
theorem zeH {A B : Prop} (x : B) (h : Zz B → A := by intro zz; exact GE.q 6 rfl za rfl (qg_runs (rv_indexH (k := q) rfl rfl zm zb zq)) rfl zz.x) : A := h ⟨x⟩
theorem zeI {A B : Prop} (x : B) (h : Zz B → A := by intro zz; exact GE.qn 4 rfl za rfl rfl zz.x) : A := h ⟨x⟩
theorem zeJ {A B : Prop} (x : B) (h : Zz B → A := by intro zz; exact GE.qn 5 rfl za rfl rfl zz.x) : A := h ⟨x⟩
theorem zeK {A B : Prop} (x : B) (h : Zz B → A := by intro zz; exact GE.qn 6 rfl za rfl rfl zz.x) : A := h ⟨x⟩
theorem zeL {A B : Prop} (x : B) (h : Zz B → A := by intro zz; exact GE.qn 7 rfl za rfl rfl zz.x) : A := h ⟨x⟩
theorem zeM {A B : Prop} (x : B) (h : Zz B → A := by intro zz; refine GE.q2 0 rfl za rfl (qg_runs (rv_field rfl)) zt rfl ?_; refine GE.q2 1 rfl za rfl (qg_runs (rv_load1 0 rfl rfl rfl)) zt rfl ?_; exact GE.q2 2 rfl za rfl (qg_runs (rv_move rfl)) zt rfl zz.x) : A := h ⟨x⟩
theorem zeN {A B : Prop} (x : B) (h : Zz B → A := by intro zz; refine GE.q2 0 rfl za rfl (qg_runs (rv_field rfl)) zt rfl ?_; refine GE.q2 1 rfl za rfl (qg_runs (rv_load1 1 rfl rfl rfl)) zt rfl ?_; exact GE.q2 2 rfl za rfl (qg_runs (rv_move rfl)) zt rfl zz.x) : A := h ⟨x⟩
theorem zeO {A B : Prop} (x : B) (h : Zz B → A := by intro zz; refine G.gY rfl rfl ?_; exact G.op (og_callV rfl rfl (fun w _ => in_any _ _ _ w)) rfl zz.x) : A := h ⟨x⟩
theorem zeP {A B : Prop} (x : B) (h : Zz B → A := by intro zz; exact G.v (rv_move rfl) rfl (G.op (og_callF1 rfl rfl (fun w hh => by have q := thereOf_any (r := r) (us := us) w (Rd.stays h _ hh) (Rd.stays h2 _ hh) (Rd.stays h3 _ hh) (Rd.stays h4 _ hh) zb; rw [← hT] at q; exact q)) rfl zz.x)) : A := h ⟨x⟩
theorem zeQ {A B : Prop} (x : B) (h : Zz B → A := by intro zz; exact G.v (rv_incr rfl rfl zb) rfl zz.x) : A := h ⟨x⟩
theorem zeR {A B : Prop} (x : B) (h : Zz B → A := by intro zz; exact GE.ol 3 za rfl rfl (og_lit rfl .nil rfl rfl rfl rfl rfl rfl) rfl zf zz.x) : A := h ⟨x⟩
theorem zeS {A B : Prop} (x : B) (h : Zz B → A := by intro zz; exact G.seq (G.drawL [] zz.x)) : A := h ⟨x⟩
theorem zeT {A B : Prop} (x : B) (h : Zz B → A := by intro zz; exact GE.ol 15 za rfl rfl (og_runs (rv_move rfl)) rfl zd zz.x) : A := h ⟨x⟩
theorem zeU {A B : Prop} (x : B) (h : Zz B → A := by intro zz; exact GE.ol 16 za rfl rfl (og_runs (rv_move rfl)) rfl zd zz.x) : A := h ⟨x⟩
theorem zeV {A B : Prop} (x : B) (h : Zz B → A := by intro zz; refine G.v (rv_len rfl ze) rfl ?_; exact G.v (rv_move rfl) rfl (G.done (G.thenN (G.block zz.x)))) : A := h ⟨x⟩
theorem zeW {A B : Prop} (x : B) (h : Zz B → A := by intro zz; refine GE.q 6 rfl za rfl (qg_runs (rv_field rfl)) rfl ?_; refine GE.q 7 rfl za rfl (qg_runs (rv_load1 0 rfl rfl rfl)) rfl ?_; exact GE.ol 8 za rfl rfl (og_runs (rv_move rfl)) rfl zd zz.x) : A := h ⟨x⟩
theorem zeX {A B : Prop} (x : B) (h : Zz B → A := by intro zz; refine GE.q 20 rfl za rfl (qg_runs (rv_field rfl)) rfl ?_; refine GE.q 21 rfl za rfl (qg_runs (rv_load1 0 rfl rfl rfl)) rfl ?_; exact GE.q 22 rfl za rfl (qg_runs (rv_field rfl)) rfl zz.x) : A := h ⟨x⟩
theorem zeY {A B : Prop} (x : B) (h : Zz B → A := by intro zz; exact GE.ol 5 za rfl rfl (og_runs (rv_move rfl)) rfl zd zz.x) : A := h ⟨x⟩
theorem zeZ {A B : Prop} (x : B) (h : Zz B → A := by intro zz; exact GE.q2 2 rfl za rfl (qg_runs (rv_move rfl)) zn rfl zz.x) : A := h ⟨x⟩
theorem ze0 {A B : Prop} (x : B) (h : Zz B → A := by intro zz; exact GE.ol 9 za rfl rfl (og_app0 rfl rfl rfl zi rfl rfl zh zh) rfl zf zz.x) : A := h ⟨x⟩
theorem ze1 {A B : Prop} (x : B) (h : Zz B → A := by intro zz; exact G.done (G.thenN (G.seq zz.x))) : A := h ⟨x⟩
theorem ze2 {A B : Prop} (x : B) (h : Zz B → A := by intro zz; exact GE.pickOp rfl rfl rfl (og_lit rfl (.cons rfl (.cons rfl .nil)) rfl rfl rfl rfl rfl rfl) rfl zu zz.x) : A := h ⟨x⟩
theorem ze3 {A B : Prop} (x : B) (h : Zz B → A := by intro zz; exact GE.t0 9 za rfl rfl rfl (og_stE2 rfl rfl rfl zaf rfl rfl rfl rfl (.succ (.zero (.cons .nil)))) zz.x) : A := h ⟨x⟩
theorem ze4 {A B : Prop} (x : B) (h : Zz B → A := by intro zz; exact GE.t0 9 za rfl rfl rfl (og_stE3 rfl rfl rfl zaf rfl rfl rfl rfl (.succ (.zero (.cons .nil)))) zz.x) : A := h ⟨x⟩
theorem ze5 {A B : Prop} (x : B) (h : Zz B → A := by intro zz; exact GE.q 26 rfl za rfl (qg_runs (rv_field rfl)) rfl zz.x) : A := h ⟨x⟩
theorem ze6 {A B : Prop} (x : B) (h : Zz B → A := by intro zz; exact G.v (rv_loadW 0 rfl rfl rfl) rfl zz.x) : A := h ⟨x⟩
theorem ze7 {A B : Prop} (x : B) (h : Zz B → A := by intro zz; exact GE.q 16 rfl za rfl (qg_runs (rv_move rfl)) rfl zz.x) : A := h ⟨x⟩
theorem ze8 {A B : Prop} (x : B) (h : Zz B → A := by intro zz; exact G.rowEq (rowF n g2) (by rw [hg2]) rfl zz.x) : A := h ⟨x⟩
theorem ze9 {A B : Prop} (x : B) (h : Zz B → A := by intro zz; exact G.swapRow ((us.set q (loadAdd t.1 k b.1, va)).map (sub LoadM.l)) hgi (sub_set (by simp only [loadAdd, List.map_append, List.map_cons, List.map_nil, icell, List.nil_append])) rfl zz.x) : A := h ⟨x⟩
theorem zfa {A B : Prop} (x : B) (h : Zz B → A := by intro zz; exact G.v (rv_leq rfl rfl) rfl (G.done (G.thenN zz.x))) : A := h ⟨x⟩
theorem zfb {A B : Prop} (x : B) (h : Zz B → A := by intro zz; exact G.v (rv_assign rfl) rfl (G.done (G.thenN (G.seq (G.seq (G.region (G.v (rv_move rfl) rfl zz.x))))))) : A := h ⟨x⟩
theorem zfc {A B : Prop} (x : B) (h : Zz B → A := by intro zz; exact GE.ol 7 za rfl rfl (og_runs (rv_load1 0 rfl rfl rfl)) rfl zd zz.x) : A := h ⟨x⟩
theorem zfd {A B : Prop} (x : B) (h : Zz B → A := by intro zz; exact G.swapRow ((us.set q (layAdd t.1 k b.1, va)).map (sub LayerM.l)) hgi (sub_set (by simp only [layAdd, List.map_append, List.map_cons, List.map_nil, icell, List.nil_append])) rfl zz.x) : A := h ⟨x⟩
theorem zfe {A B : Prop} (x : B) (h : Zz B → A := by intro zz; exact GE.q 8 rfl za rfl (qg_runs (rv_move rfl)) rfl zz.x) : A := h ⟨x⟩
theorem zff {A B : Prop} (x : B) (h : Zz B → A := by intro zz; exact G.v (rv_indexH (k := q) rfl rfl zi zb zq) rfl zz.x) : A := h ⟨x⟩
theorem zfg {A B : Prop} (x : B) (h : Zz B → A := by intro zz; exact G.v (rv_indexH (k := q) rfl rfl zm zb zq) rfl zz.x) : A := h ⟨x⟩
theorem zfh {A B : Prop} (x : B) (h : Zz B → A := by intro zz; exact GE.qn 20 rfl za rfl rfl zz.x) : A := h ⟨x⟩
theorem zfi {A B : Prop} (x : B) (h : Zz B → A := by intro zz; exact GE.qn 21 rfl za rfl rfl zz.x) : A := h ⟨x⟩
theorem zfj {A B : Prop} (x : B) (h : Zz B → A := by intro zz; exact GE.qn 22 rfl za rfl rfl zz.x) : A := h ⟨x⟩
theorem zfk {A B : Prop} (x : B) (h : Zz B → A := by intro zz; exact GE.qn 23 rfl za rfl rfl zz.x) : A := h ⟨x⟩
theorem zfl {A B : Prop} (x : B) (h : Zz B → A := by intro zz; exact GE.qn 26 rfl za rfl rfl zz.x) : A := h ⟨x⟩
theorem zfm {A B : Prop} (x : B) (h : Zz B → A := by intro zz; exact GE.qn 18 rfl za rfl rfl zz.x) : A := h ⟨x⟩
theorem zfn {A B : Prop} (x : B) (h : Zz B → A := by intro zz; exact G.gU rfl rfl rfl zz.x) : A := h ⟨x⟩
theorem zfo {A B : Prop} (x : B) (h : Zz B → A := by intro zz; refine G.gY rfl rfl ?_; exact G.op (og_callV rfl rfl (fun w _ => l1In_any _ _ _ w)) rfl zz.x) : A := h ⟨x⟩
theorem zfp {A B : Prop} (x : B) (h : Zz B → A := by intro zz; refine G.v (rv_indexH rfl rfl ze rfl zE) rfl ?_; exact G.v (rv_loadE rfl ze zE rfl) rfl zz.x) : A := h ⟨x⟩
theorem zfq {A B : Prop} (x : B) (h : Zz B → A := by intro zz; refine G.frontB3 bk4 rfl ?_; refine G.frontR3 sv rfl ?_; exact G.rowEq (((spotsAt r k).1 ++ (sp.take 0).map (movedM (spotsAt r k).2)).map SpotM.cells) zD rfl zz.x) : A := h ⟨x⟩
theorem zfr {A B : Prop} (x : B) (h : Zz B → A := by intro zz; exact G.op (og_callV rfl rfl (fun w hh => smasterOf_any (r := r) w (Rd.stays h2 _ hh))) rfl zz.x) : A := h ⟨x⟩
theorem zfs {A B : Prop} (x : B) (h : Zz B → A := by intro zz; exact GE.t0 10 za rfl rfl rfl (og_st2 rfl rfl rfl rfl rfl rfl (.zero (.cons (.cons .nil)))) zz.x) : A := h ⟨x⟩
theorem zft {A B : Prop} (x : B) (h : Zz B → A := by intro zz; exact GE.q 27 rfl za rfl (qg_runs (rv_load1 3 rfl rfl rfl)) rfl zz.x) : A := h ⟨x⟩
theorem zfu {A B : Prop} (x : B) (h : Zz B → A := by intro zz; exact GE.q 10 rfl za rfl (qg_runs (rv_load1 0 rfl rfl rfl)) rfl zz.x) : A := h ⟨x⟩
theorem zfv {A B : Prop} (x : B) (h : Zz B → A := by intro zz; exact G.frontB6 bk2 rfl zz.x) : A := h ⟨x⟩
theorem zfw {A B : Prop} (x : B) (h : Zz B → A := by intro zz; exact G.op (og_callV rfl rfl (fun w hh => masterOf_any (r := r) w (Rd.stays h2 _ hh))) rfl zz.x) : A := h ⟨x⟩
theorem zfx {A B : Prop} (x : B) (h : Zz B → A := by intro zz; exact GE.know (fun w hw => (Rd.grp 1 rfl (List.mem_of_getElem? (get_set1 hgi)) w hw).one_) zz.x) : A := h ⟨x⟩
theorem zfy {A B : Prop} (x : B) (h : Zz B → A := by intro zz; exact G.know (fun w hw => (Rd.grp 2 rfl (List.mem_of_getElem? (get_set1 hgi)) w hw).one_) zz.x) : A := h ⟨x⟩
theorem zfA {A B : Prop} (x : B) (h : Zz B → A := by intro zz; exact GE.q 11 rfl za rfl (qg_runs (rv_addB rfl rfl zb zb)) rfl zz.x) : A := h ⟨x⟩
theorem zfB {A B : Prop} (x : B) (h : Zz B → A := by intro zz; exact G.know (p := ∀ c ∈ cs, c.2.oneCell' = true) (fun w hw c hc => ((Rd.owned 1 rfl (v := cv) w hw).good _ (List.mem_map_of_mem hc)).2 c.2 (by simp [CartonM.cells])) zz.x) : A := h ⟨x⟩
theorem zfC {A B : Prop} (x : B) (h : Zz B → A := by intro zz; exact G.v (rv_assign rfl) rfl (G.done (G.thenN (G.seq (G.region zz.x))))) : A := h ⟨x⟩
theorem zfD {A B : Prop} (x : B) (h : Zz B → A := by intro zz; exact GE.qn 3 rfl za rfl rfl zz.x) : A := h ⟨x⟩
theorem zfE {A B : Prop} (x : B) (h : Zz B → A := by intro zz; exact GE.ol 9 za rfl rfl (og_callM0 rfl rfl rfl (l1PickInt_any zg rfl rfl zc zc)) rfl zu zz.x) : A := h ⟨x⟩
theorem zfF {A B : Prop} (x : B) (h : Zz B → A := by intro zz; exact GE.ol 9 za rfl rfl (og_callM0 rfl rfl rfl (l1PickInt_any zi rfl rfl zc zc)) rfl zu zz.x) : A := h ⟨x⟩
theorem zfG {A B : Prop} (x : B) (h : Zz B → A := by intro zz; exact GE.ol 16 za rfl rfl (og_runs (rv_pickT rfl rfl)) rfl zd zz.x) : A := h ⟨x⟩
theorem zfH {A B : Prop} (x : B) (h : Zz B → A := by intro zz; exact GE.ol 16 za rfl rfl (og_runs (rv_pickF rfl rfl)) rfl zd zz.x) : A := h ⟨x⟩
theorem zfI {A B : Prop} (x : B) (h : Zz B → A := by intro zz; exact GE.ol 14 za rfl rfl (og_runs (rv_pickT rfl rfl)) rfl zd zz.x) : A := h ⟨x⟩
theorem zfJ {A B : Prop} (x : B) (h : Zz B → A := by intro zz; exact GE.ol 14 za rfl rfl (og_runs (rv_pickF rfl rfl)) rfl zd zz.x) : A := h ⟨x⟩
theorem zfK {A B : Prop} (x : B) (h : Zz B → A := by intro zz; exact GE.q 5 rfl za rfl (qg_runs (rv_decr rfl rfl zb zb)) rfl zz.x) : A := h ⟨x⟩
theorem zfL {A B : Prop} (x : B) (h : Zz B → A := by intro zz; exact G.skip (G.inN (G.thenN (G.region (G.v (rv_move rfl) rfl (G.v (rv_incr rfl rfl zb) rfl (G.v (rv_assign rfl) rfl (G.done zz.x)))))))) : A := h ⟨x⟩
theorem zfM {A B : Prop} (x : B) (h : Zz B → A := by intro zz; exact GE.ol 7 za rfl rfl (og_lit rfl (.cons rfl .nil) rfl rfl rfl rfl rfl rfl) rfl zf zz.x) : A := h ⟨x⟩
theorem zfN {A B : Prop} (x : B) (h : Zz B → A := by intro zz; exact GE.ol 6 za rfl rfl (og_lit rfl (.cons rfl .nil) rfl rfl rfl rfl rfl rfl) rfl zk zz.x) : A := h ⟨x⟩
theorem zfO {A B : Prop} (x : B) (h : Zz B → A := by intro zz; exact G.frontB0 cb rfl zz.x) : A := h ⟨x⟩
theorem zfP {A B : Prop} (x : B) (h : Zz B → A := by intro zz; exact G.seq (G.region (G.v (rv_assign rfl) rfl (G.done (G.thenN (G.seq (G.region (G.v (rv_move rfl) rfl (G.v (rv_move rfl) rfl zz.x))))))))) : A := h ⟨x⟩
theorem zfQ {A B : Prop} (x : B) (h : Zz B → A := by intro zz; refine GE.q2 7 rfl za rfl (qg_runs (rv_addB rfl rfl zb zb)) zt rfl ?_; exact GE.ol 9 za rfl rfl (og_callM0 rfl rfl rfl (l1Below_any _ zc zc).toF) rfl zf zz.x) : A := h ⟨x⟩
theorem zfR {A B : Prop} (x : B) (h : Zz B → A := by intro zz; exact G.exit (G.thenX (G.thenX (G.inX (G.thenN (G.seq (G.region (G.v (rv_assign rfl) rfl (G.done (G.thenN (G.ret zz.x))))))))))) : A := h ⟨x⟩
theorem zfS {A B : Prop} (x : B) (h : Zz B → A := by intro zz; refine G.frontR2 vr rfl ?_; refine G.frontG2 _ rfl ?_; exact G.keep2 3 rfl zz.x) : A := h ⟨x⟩
theorem zfT {A B : Prop} (x : B) (h : Zz B → A := by intro zz; refine G.frontR3 vr rfl ?_; refine G.frontG3 _ rfl ?_; exact G.keep2 2 rfl zz.x) : A := h ⟨x⟩
theorem zfU {A B : Prop} (x : B) (h : Zz B → A := by intro zz; exact GE.pickOp rfl rfl rfl (og_callF0 rfl rfl (fun w hh => (l7Of_any (r := r) (us := us ++ [u]) w (Rd.stays h3 _ hh) zQ zw (Rd.stays h5 _ hh)).toFn)) rfl zf zz.x) : A := h ⟨x⟩
theorem zfV {A B : Prop} (x : B) (h : Zz B → A := by intro zz; refine G.v (rv_indexH rfl rfl zg rfl zaq) rfl ?_; exact G.op0 (og_stE0 rfl rfl rfl zaq rfl rfl rfl rfl (.zero (.cons (.cons (.cons (.cons .nil)))))) zz.x) : A := h ⟨x⟩
theorem zfW {A B : Prop} (x : B) (h : Zz B → A := by intro zz; exact GE.qn 19 rfl za rfl rfl zz.x) : A := h ⟨x⟩
theorem zfX {A B : Prop} (x : B) (h : Zz B → A := by intro zz; exact GE.t 9 za rfl rfl rfl (og_runs (rv_assign rfl)) rfl zz.x) : A := h ⟨x⟩
theorem zfY {A B : Prop} (x : B) (h : Zz B → A := by intro zz; exact GE.ol 8 za rfl rfl (og_callF0 rfl rfl (fun w hh => (l7Of_any (r := r) (us := us ++ [u]) w (Rd.stays h3 _ hh) zav zw (Rd.stays h5 _ hh)).toFn)) rfl zk zz.x) : A := h ⟨x⟩
theorem zfZ {A B : Prop} (x : B) (h : Zz B → A := by intro zz; refine G.gY rfl rfl ?_; exact G.op (og_callV rfl rfl (fun w hh => sbeside_any _ _ w zH)) rfl zz.x) : A := h ⟨x⟩
theorem zf0 {A B : Prop} (x : B) (h : Zz B → A := by intro zz; exact GE.ol 3 za rfl rfl (og_callM1 rfl rfl rfl (l1Below_any _ zc zc).toF) rfl zf zz.x) : A := h ⟨x⟩
theorem zf1 {A B : Prop} (x : B) (h : Zz B → A := by intro zz; refine GS.p 4 rfl za (qg_runs (rv_move rfl)) (fun _ h => h.drop 1) rfl ?_; exact GS.p 5 rfl za (qg_runs (rv_move rfl)) (fun _ h => h.drop 1) rfl zz.x) : A := h ⟨x⟩
theorem zf2 {A B : Prop} (x : B) (h : Zz B → A := by intro zz; exact G.seq (G.region (G.v (rv_assign rfl) rfl (G.done (G.thenN (G.seq (G.seq (G.region (G.v (rv_assign rfl) rfl (G.done (G.thenN (G.block zz.x)))))))))))) : A := h ⟨x⟩
theorem zf3 {A B : Prop} (x : B) (h : Zz B → A := by intro zz; exact GE.t 26 za rfl rfl rfl (og_runs (rv_indexH (k := q) rfl rfl zT zb zq)) rfl zz.x) : A := h ⟨x⟩
theorem zf4 {A B : Prop} (x : B) (h : Zz B → A := by intro zz; exact GE.t 26 za rfl rfl rfl (og_runs (rv_indexH (k := q) rfl rfl z6 zb zq)) rfl zz.x) : A := h ⟨x⟩
theorem zf5 {A B : Prop} (x : B) (h : Zz B → A := by intro zz; exact GE.t 21 za rfl rfl rfl (og_runs (rv_indexH (k := q) rfl rfl zT zb zq)) rfl zz.x) : A := h ⟨x⟩
theorem zf6 {A B : Prop} (x : B) (h : Zz B → A := by intro zz; exact GE.t 21 za rfl rfl rfl (og_runs (rv_indexH (k := q) rfl rfl z6 zb zq)) rfl zz.x) : A := h ⟨x⟩
theorem zf7 {A B : Prop} (x : B) (h : Zz B → A := by intro zz; exact GE.ol 16 za rfl rfl (og_callV rfl rfl (fun w _ => l1Max_any _ _ w)) rfl zf zz.x) : A := h ⟨x⟩
theorem zf8 {A B : Prop} (x : B) (h : Zz B → A := by intro zz; exact GE.ol 21 za rfl rfl (og_callV rfl rfl (fun w _ => l1Max_any _ _ w)) rfl zf zz.x) : A := h ⟨x⟩
theorem zf9 {A B : Prop} (x : B) (h : Zz B → A := by intro zz; exact G.v (rv_assign rfl) rfl (G.done (G.thenN (G.seq (G.region (G.v (rv_loadW 0 rfl rfl rfl) rfl zz.x)))))) : A := h ⟨x⟩
end Go.Proofs.YtglpgohilfoecaaGreat
