/- The law ActLost. No condition. -/
import Derived.Test.YtdbcimadjmdffaaDc
import Derived.Test.YtdbcimadjmdffaaAo
set_option maxRecDepth 100000
set_option linter.unusedVariables false
set_option linter.unusedSimpArgs false
set_option linter.unusedSectionVars false
set_option maxHeartbeats 4000000
namespace Go.Proofs.Ytdbcimadjmdffaa
open Go.RowKit Go.Joins
theorem SF.and_snd (F G : SF) : (F.and G).le G := fun w h => ⟨h.2, fun b hb => .inr hb⟩

theorem w_ActLost (x : Wd) (A : Option Addr) (b o c : Nat) (t : Int) (w : World) (hm : x.log.length ≤ maxLen) (hcap : x.log.length ≤ c) (hr : RL w A b o x.log) (ht9 : -9223372036854775808 ≤ t ∧ t ≤ 9223372036854775807) : Ret Try.prog 41 [x.val A c, .int .i64 t] w (.bool true) := by
 refine enter Try.func41 rfl Try.ntmps41 rfl SF.top trivial ?_
 refine sR ?_
 refine WL.eff (E.box rfl rfl rfl) rfl (fun b1 => ?_)
 refine pA rfl rfl ?_
 refine nN ?_
 refine WC.seq ?_
 refine sR ?_
 refine pV (Y.loadAN wd_54 rfl (by repeat (first | exact List.Mem.head _ | apply List.Mem.tail)) (r := (x).cl A c) rfl) rfl ?_
 refine WL.eff (E.call Try.call77 rfl (fun _ w s => w_worldCheck x A b o c w hm hcap (hr.below s.low)) rfl) rfl (fun _ => ?_)
 refine pP (Y.neq rfl rfl) rfl ?_
 refine nN ?_
 refine WC.cond rfl (fun h19 => ?_) (fun h19 => ?_)
 refine sR ?_
 refine WL.eff (E.call Try.call64 rfl (fun _ w s => w_actBegun w) rfl) rfl (fun _ => ?_)
 refine pA rfl rfl ?_
 refine nN ?_
 refine WC.ret ?_
 refine WQ.thenRet ?_
 refine dn1 Try.results41 rfl (fun a w s => ?_)
 · refine ⟨?_, s.low⟩
   clear s
   first
     | (simp [packed]; done)
     | (have h48 := h48; have h43 := h43; simp [packed] at h43 h48 ⊢; omega)
     | rfl
 refine WC.skip' ?_
 refine WQ.next ?_
 refine WC.seq ?_
 have h0 : worldErr x = 0 := by simpa using h19
 obtain ⟨u, hu⟩ : ∃ u, chooseI t 9 = u := ⟨_, rfl⟩
 have hu9 : 0 ≤ u ∧ u < 9 := hu ▸ choose_bnd (by omega)
 have lx := (world_right h0).1
 obtain ⟨s0, hs0⟩ : ∃ s0 : Nat, stt x.h (1 + u) = s0 := ⟨_, rfl⟩
 obtain ⟨n0, hn0⟩ : ∃ n0 : Nat, lastN x.h (1 + u) = n0 := ⟨_, rfl⟩
 have hls : logState x.log (1 + u) = ((s0 : Int), (n0 : Int), 0) := by rw [← hs0, ← hn0]; exact logState_ok lx (by omega)
 obtain ⟨z, e, hz⟩ : ∃ z e, doOf x (⟨6, 0, 0, 0, 0⟩ : Ac) = (z, e) := ⟨_, _, rfl⟩
 have he02 : e = 0 ∨ e = 2 := by have := do_err x h0; rw [hz] at this; exact this
 refine WC.region ?_
 refine pM rfl rfl ?_
 refine WL.eff (E.call Try.call60 rfl (fun _ w s => (by have h := w_choose t 9 w ht9 (by omega); rw [hu] at h; exact h)) rfl) rfl (fun _ => ?_)
 refine pP (Y.add rfl rfl (i64_in (by omega) (by omega))) rfl ?_
 refine pA rfl rfl ?_
 refine nN ?_
 refine sR ?_
 refine pP (Y.fieldAddr fa_54_1 rfl) rfl ?_
 refine pV (Y.load (cs := (x).cl A c) (v := .slice A (x).log.length c) fl_39 rfl (by repeat (first | exact List.Mem.head _ | apply List.Mem.tail)) rfl) rfl ?_
 refine pM rfl rfl ?_
 refine WL.eff (E.call Try.call58 rfl (fun _ w s => (by have hh := w_logState x.log A b o c (1 + u) w (hr.below s.low); rw [hls] at hh; exact hh)) rfl) rfl (fun _ => ?_)
 refine pM rfl rfl ?_
 refine pP (Y.extract rfl rfl) rfl ?_
 refine pP (Y.extract rfl rfl) rfl ?_
 refine pP (Y.extract rfl rfl) rfl ?_
 refine pA rfl rfl ?_
 refine pA rfl rfl ?_
 refine pA rfl rfl ?_
 refine nN ?_
 refine sR ?_
 refine pV (Y.loadAN wd_54 rfl (by repeat (first | exact List.Mem.head _ | apply List.Mem.tail)) (r := (x).cl A c) rfl) rfl ?_
 refine pP (Y.build rfl (bf_61_0 _)) rfl ?_
 refine WL.eff (E.retW (z) [.int .i64 e] Try.call65 rfl (fun _ w s => (by have hh := w_actDo x A b o c (⟨6, 0, 0, 0, 0⟩ : Ac) w hm hcap (hr.below s.low); rw [hz] at hh; exact hh)) rfl) rfl (fun i => ?_)
 refine pM rfl rfl ?_
 refine pP (Y.extract rfl rfl) rfl ?_
 refine pP (Y.extract rfl rfl) rfl ?_
 refine WL.eff (E.alloc Try.zeroValue54 rfl rfl) rfl (fun b2 => ?_)
 refine WL.eff (E.store Try.sizeOf54 rfl rfl rfl rfl rfl u0 rfl rfl) rfl (fun _ => ?_)
 refine pA rfl rfl ?_
 refine nN ?_
 refine WC.seq ?_
 refine sR ?_
 refine pM rfl rfl ?_
 refine pP (Y.neq rfl rfl) rfl ?_
 refine pM rfl rfl ?_
 refine WL.known (t := 40) (r := false) rfl (rfl) ?_
 refine gT rfl ?_
 refine pM rfl rfl ?_
 refine gT rfl ?_
 refine pP (Y.neq rfl rfl) rfl ?_
 refine pP (Y.pickF rfl rfl) rfl ?_
 refine nN ?_
 refine WC.cond rfl (fun h43 => ?_) (fun h43 => ?_)
 refine sR ?_
 refine WL.eff (E.call Try.call64 rfl (fun _ w s => w_actBegun w) rfl) rfl (fun _ => ?_)
 refine pM rfl rfl ?_
 refine gT rfl ?_
 refine pM rfl rfl ?_
 refine gT rfl ?_
 refine pP (Y.eql rfl rfl) rfl ?_
 refine gT rfl ?_
 refine pM rfl rfl ?_
 refine WL.split (t := 48) rfl (fun r h48 => ?_)
 cases r
 refine gT rfl ?_
 refine pM rfl rfl ?_
 refine gT rfl ?_
 refine pP (Y.eql rfl rfl) rfl ?_
 refine gT rfl ?_
 refine pP (Y.pickF rfl rfl) rfl ?_
 refine pP (Y.pickT rfl rfl) rfl ?_
 refine pA rfl rfl ?_
 refine nN ?_
 refine WC.ret ?_
 refine WQ.thenRet ?_
 refine dn1 Try.results41 rfl (fun a w s => ?_)
 · refine ⟨?_, s.low⟩
   clear s
   first
     | (simp [packed]; done)
     | (have h48 := h48; have h43 := h43; simp [packed] at h43 h48 ⊢; omega)
     | rfl
 refine gF rfl ?_
 refine gF rfl ?_
 refine gT rfl ?_
 refine pP (Y.pickT rfl rfl) rfl ?_
 refine pP (Y.pickT rfl rfl) rfl ?_
 refine pA rfl rfl ?_
 refine nN ?_
 refine WC.ret ?_
 refine WQ.thenRet ?_
 refine dn1 Try.results41 rfl (fun a w s => ?_)
 · refine ⟨?_, s.low⟩
   clear s
   first
     | (simp [packed]; done)
     | (have h48 := h48; have h43 := h43; simp [packed] at h43 h48 ⊢; omega)
     | rfl
 refine WC.skip' ?_
 refine WQ.next ?_
 refine WC.seq ?_
 obtain ⟨lz, hsz, hwz⟩ := act_lost hz (by simpa using h43) (t := (1 + u)) (by omega)
 obtain ⟨s1, hs1⟩ : ∃ s1 : Nat, stt z.h (1 + u) = s1 := ⟨_, rfl⟩
 obtain ⟨n1, hn1⟩ : ∃ n1 : Nat, lastN z.h (1 + u) = n1 := ⟨_, rfl⟩
 have hls1 : logState z.log (1 + u) = ((s1 : Int), (n1 : Int), 0) := by rw [← hs1, ← hn1]; exact logState_ok lz (by omega)
 rw [hs1] at hsz
 rw [hs0] at hwz
 have hwl : (winsOf z.log).length ≤ 60 := by have h1 := winsL_len z.log; have h2 := (log_right lz).1; rw [wins_ok lz]; omega
 refine WC.region ?_
 refine pP (Y.fieldAddr fa_54_1 rfl) rfl ?_
 refine pV (Y.load (cs := (z).cl i.1 i.2) (v := .slice i.1 (z).log.length i.2) fl_39 rfl (by repeat (first | exact List.Mem.head _ | apply List.Mem.tail)) rfl) rfl ?_
 refine pM rfl rfl ?_
 refine WL.eff (E.call Try.call58 rfl (fun _ w s => (by have hh := w_logState z.log i.1 (gOf i.1) 0 i.2 (1 + u) w (own_RL s.fact.1); rw [hls1] at hh; exact hh)) rfl) rfl (fun _ => ?_)
 refine pM rfl rfl ?_
 refine pP (Y.extract rfl rfl) rfl ?_
 refine pP (Y.extract rfl rfl) rfl ?_
 refine pP (Y.extract rfl rfl) rfl ?_
 refine pA rfl rfl ?_
 refine pA rfl rfl ?_
 refine pA rfl rfl ?_
 refine nN ?_
 refine sR ?_
 refine pP (Y.fieldAddr fa_54_1 rfl) rfl ?_
 refine pV (Y.load (cs := (z).cl i.1 i.2) (v := .slice i.1 (z).log.length i.2) fl_39 rfl (by repeat (first | exact List.Mem.head _ | apply List.Mem.tail)) rfl) rfl ?_
 refine WL.eff (E.callF (fun i : Option Addr × Nat => .tuple #[.slice i.1 (winsOf z.log).length i.2, .int .i64 (logErr z.log)]) (fun i => SF.own w.heap.size 3 1 (.slice i.1 (winsOf z.log).length i.2) (winsOf z.log).length (ints (winsOf z.log))) Try.call67 rfl (fun _ w s => (w_wins z.log i.1 (gOf i.1) 0 i.2 w (own_RL s.fact.1)).mono fun e w' ⟨i, he, hb, ho⟩ => ⟨i, he, hb, ownsRow_le ho s.low.size, fun g hg => .inl (ho.lt g hg).1⟩) rfl) rfl (fun j => ?_)
 refine pM rfl rfl ?_
 refine pP (Y.extract rfl rfl) rfl ?_
 refine pP (Y.extract rfl rfl) rfl ?_
 refine pA rfl rfl ?_
 refine pA rfl rfl ?_
 refine nN ?_
 refine WC.seq ?_
 refine sR ?_
 refine pM rfl rfl ?_
 refine pP (Y.neq rfl rfl) rfl ?_
 refine pM rfl rfl ?_
 refine WL.known (t := 69) (r := false) rfl (rfl) ?_
 refine gT rfl ?_
 refine pM rfl rfl ?_
 refine gT rfl ?_
 refine pP (Y.neq rfl rfl) rfl ?_
 refine pP (Y.pickF rfl rfl) rfl ?_
 refine pM rfl rfl ?_
 refine WL.known (t := 73) (r := false) rfl (by rw [lz]; rfl) ?_
 refine gT rfl ?_
 refine pM rfl rfl ?_
 refine gT rfl ?_
 refine pP (Y.neq rfl rfl) rfl ?_
 refine gT rfl ?_
 refine pM rfl rfl ?_
 refine WL.split (t := 76) rfl (fun r h76 => ?_)
 cases r
 refine gF rfl ?_
 refine gF rfl ?_
 refine gT rfl ?_
 refine pP (Y.pickF rfl rfl) rfl ?_
 refine pP (Y.pickF rfl rfl) rfl ?_
 refine nN ?_
 refine WC.condF rfl ?_
 refine WC.skip' ?_
 refine WQ.next ?_
 refine WC.seq ?_
 refine sR ?_
 refine pA rfl rfl ?_
 refine nN ?_
 refine WC.block ?_
 refine WC.loop (ι := Nat) (fun m => [(5, .int .i64 (1 + u)), (6, .int .i64 s0), (14, .slice j.1 (winsOf z.log).length j.2), (16, .int .i64 m)]) (fun _ => []) (fun _ => (SF.own w.heap.size 3 1 (.slice j.1 (winsOf z.log).length j.2) (winsOf z.log).length (ints (winsOf z.log)))) (fun m => m ≤ (winsOf z.log).length) (fun m => (winsOf z.log).length - m) 0 (Nat.zero_le _) (fun a w s => ((s.le (SF.and_snd _ _)).sub (Hsub.of_sub (List.nil_sublist _))).weak (by repeat (first | exact sub_nil _ | refine sub_cons rfl ?_))) (fun m hm9 => ?_)
 refine WC.seq ?_
 refine sR ?_
 refine pM rfl rfl ?_
 refine pM rfl rfl ?_
 refine pP (Y.len Try.underlying64 rfl) rfl ?_
 refine pP (Y.lss rfl rfl) rfl ?_
 refine nN ?_
 refine WC.cond rfl (fun h84 => ?_) (fun h84 => ?_)
 refine WC.skip' ?_
 refine WQ.next ?_
 refine WC.seq ?_
 refine WC.block ?_
 refine WC.seq ?_
 have hml : m < (winsOf z.log).length := by have h84 := h84; simp at h84; omega
 obtain ⟨y, hy⟩ := get_of_lt (l := (winsOf z.log)) (k := m) hml
 refine WC.know (p := j.1 = some ⟨gOf j.1, 0, none⟩) (fun a w s => (own_IL rfl s.fact).addr (i := m) hy) (fun hA => ?_)
 have hq : ∀ (b : Bool), decide (y = (1 + u)) = true → s0 = 2 ∨ s0 = 4 := fun _ h => hwz m (by rw [hy, of_decide_eq_true h])
 refine WC.region ?_
 refine pM rfl rfl ?_
 refine pM rfl rfl ?_
 refine pP (Y.ixSlA (A := j.1) (b := gOf j.1) (o := 0) Try.underlying64 Try.sizeOf3 rfl rfl hA (by omega) (by omega)) rfl ?_
 refine pV (Y.loadc fl_3 rfl (v := .int .i64 y) (fun a w s => by have hh := (own_IL rfl s.fact).cell m y hy; simpa using hh)) rfl ?_
 refine pM rfl rfl ?_
 refine pP (Y.eql rfl rfl) rfl ?_
 refine pM rfl rfl ?_
 refine WL.split (t := 93) rfl (fun r h93 => ?_)
 cases r
 refine gF rfl ?_
 refine gF rfl ?_
 refine gF rfl ?_
 refine gF rfl ?_
 refine gF rfl ?_
 refine gF rfl ?_
 refine gF rfl ?_
 refine gF rfl ?_
 refine gF rfl ?_
 refine gF rfl ?_
 refine pP (Y.pickF rfl rfl) rfl ?_
 refine nN ?_
 refine WC.condF rfl ?_
 refine WC.skip' ?_
 refine WQ.blockEnd ?_
 refine WQ.next ?_
 refine WC.region ?_
 refine pM rfl rfl ?_
 refine pP (Y.add rfl rfl (i64_in (by omega) (by omega))) rfl ?_
 refine pA rfl rfl ?_
 refine WL.nil ?_
 · refine fun a w s => ⟨m + 1, by omega, by omega, s.weak (by repeat (first | exact sub_nil _ | refine sub_cons rfl ?_))⟩
 refine gT rfl ?_
 refine pM rfl rfl ?_
 refine gT rfl ?_
 refine pP (Y.eql rfl rfl) rfl ?_
 refine gT rfl ?_
 refine pM rfl rfl ?_
 refine WL.known (t := 96) (r := false) rfl (by have h93 := hq true h93; simp; omega) ?_
 refine gT rfl ?_
 refine pM rfl rfl ?_
 refine gT rfl ?_
 refine pP (Y.eql rfl rfl) rfl ?_
 refine gT rfl ?_
 refine pP (Y.pickF rfl rfl) rfl ?_
 refine gT rfl ?_
 refine pM rfl rfl ?_
 refine WL.known (t := 100) (r := false) rfl (by have h93 := hq true h93; simp; omega) ?_
 refine gT rfl ?_
 refine pM rfl rfl ?_
 refine gT rfl ?_
 refine pP (Y.eql rfl rfl) rfl ?_
 refine gT rfl ?_
 refine pP (Y.pickF rfl rfl) rfl ?_
 refine pP (Y.pickT rfl rfl) rfl ?_
 refine nN ?_
 refine WC.isF rfl (by have h93 := hq true h93; simp; omega) ?_
 refine WC.skip' ?_
 refine WQ.blockEnd ?_
 refine WQ.next ?_
 refine WC.region ?_
 refine pM rfl rfl ?_
 refine pP (Y.add rfl rfl (i64_in (by omega) (by omega))) rfl ?_
 refine pA rfl rfl ?_
 refine WL.nil ?_
 · refine fun a w s => ⟨m + 1, by omega, by omega, s.weak (by repeat (first | exact sub_nil _ | refine sub_cons rfl ?_))⟩
 refine WC.exit ?_
 refine WQ.thenExit ?_
 refine WQ.thenExit ?_
 refine WQ.blockExit ?_
 refine WQ.next ?_
 refine sR ?_
 refine WL.eff (E.call Try.call64 rfl (fun _ w s => w_actBegun w) rfl) rfl (fun _ => ?_)
 refine pA rfl rfl ?_
 refine nN ?_
 refine WC.ret ?_
 refine dn1 Try.results41 rfl (fun a w s => ?_)
 · refine ⟨?_, s.low⟩
   clear s
   first
     | (simp [packed]; done)
     | (have h48 := h48; have h43 := h43; simp [packed] at h43 h48 ⊢; omega)
     | rfl
 refine gT rfl ?_
 refine pM rfl rfl ?_
 refine gT rfl ?_
 refine pP (Y.neq rfl rfl) rfl ?_
 refine gT rfl ?_
 refine pP (Y.pickT rfl rfl) rfl ?_
 refine pP (Y.pickF rfl rfl) rfl ?_
 refine nN ?_
 refine WC.isF rfl (by have h76 := h76; simp at h76 ⊢; omega) ?_
 refine WC.skip' ?_
 refine WQ.next ?_
 refine WC.seq ?_
 refine sR ?_
 refine pA rfl rfl ?_
 refine nN ?_
 refine WC.block ?_
 refine WC.loop (ι := Nat) (fun m => [(5, .int .i64 (1 + u)), (6, .int .i64 s0), (14, .slice j.1 (winsOf z.log).length j.2), (16, .int .i64 m)]) (fun _ => []) (fun _ => (SF.own w.heap.size 3 1 (.slice j.1 (winsOf z.log).length j.2) (winsOf z.log).length (ints (winsOf z.log)))) (fun m => m ≤ (winsOf z.log).length) (fun m => (winsOf z.log).length - m) 0 (Nat.zero_le _) (fun a w s => ((s.le (SF.and_snd _ _)).sub (Hsub.of_sub (List.nil_sublist _))).weak (by repeat (first | exact sub_nil _ | refine sub_cons rfl ?_))) (fun m hm9 => ?_)
 refine WC.seq ?_
 refine sR ?_
 refine pM rfl rfl ?_
 refine pM rfl rfl ?_
 refine pP (Y.len Try.underlying64 rfl) rfl ?_
 refine pP (Y.lss rfl rfl) rfl ?_
 refine nN ?_
 refine WC.cond rfl (fun h84 => ?_) (fun h84 => ?_)
 refine WC.skip' ?_
 refine WQ.next ?_
 refine WC.seq ?_
 refine WC.block ?_
 refine WC.seq ?_
 have hml : m < (winsOf z.log).length := by have h84 := h84; simp at h84; omega
 obtain ⟨y, hy⟩ := get_of_lt (l := (winsOf z.log)) (k := m) hml
 refine WC.know (p := j.1 = some ⟨gOf j.1, 0, none⟩) (fun a w s => (own_IL rfl s.fact).addr (i := m) hy) (fun hA => ?_)
 have hq : ∀ (b : Bool), decide (y = (1 + u)) = true → s0 = 2 ∨ s0 = 4 := fun _ h => hwz m (by rw [hy, of_decide_eq_true h])
 refine WC.region ?_
 refine pM rfl rfl ?_
 refine pM rfl rfl ?_
 refine pP (Y.ixSlA (A := j.1) (b := gOf j.1) (o := 0) Try.underlying64 Try.sizeOf3 rfl rfl hA (by omega) (by omega)) rfl ?_
 refine pV (Y.loadc fl_3 rfl (v := .int .i64 y) (fun a w s => by have hh := (own_IL rfl s.fact).cell m y hy; simpa using hh)) rfl ?_
 refine pM rfl rfl ?_
 refine pP (Y.eql rfl rfl) rfl ?_
 refine pM rfl rfl ?_
 refine WL.split (t := 93) rfl (fun r h93 => ?_)
 cases r
 refine gF rfl ?_
 refine gF rfl ?_
 refine gF rfl ?_
 refine gF rfl ?_
 refine gF rfl ?_
 refine gF rfl ?_
 refine gF rfl ?_
 refine gF rfl ?_
 refine gF rfl ?_
 refine gF rfl ?_
 refine pP (Y.pickF rfl rfl) rfl ?_
 refine nN ?_
 refine WC.condF rfl ?_
 refine WC.skip' ?_
 refine WQ.blockEnd ?_
 refine WQ.next ?_
 refine WC.region ?_
 refine pM rfl rfl ?_
 refine pP (Y.add rfl rfl (i64_in (by omega) (by omega))) rfl ?_
 refine pA rfl rfl ?_
 refine WL.nil ?_
 · refine fun a w s => ⟨m + 1, by omega, by omega, s.weak (by repeat (first | exact sub_nil _ | refine sub_cons rfl ?_))⟩
 refine gT rfl ?_
 refine pM rfl rfl ?_
 refine gT rfl ?_
 refine pP (Y.eql rfl rfl) rfl ?_
 refine gT rfl ?_
 refine pM rfl rfl ?_
 refine WL.known (t := 96) (r := false) rfl (by have h93 := hq true h93; simp; omega) ?_
 refine gT rfl ?_
 refine pM rfl rfl ?_
 refine gT rfl ?_
 refine pP (Y.eql rfl rfl) rfl ?_
 refine gT rfl ?_
 refine pP (Y.pickF rfl rfl) rfl ?_
 refine gT rfl ?_
 refine pM rfl rfl ?_
 refine WL.known (t := 100) (r := false) rfl (by have h93 := hq true h93; simp; omega) ?_
 refine gT rfl ?_
 refine pM rfl rfl ?_
 refine gT rfl ?_
 refine pP (Y.eql rfl rfl) rfl ?_
 refine gT rfl ?_
 refine pP (Y.pickF rfl rfl) rfl ?_
 refine pP (Y.pickT rfl rfl) rfl ?_
 refine nN ?_
 refine WC.isF rfl (by have h93 := hq true h93; simp; omega) ?_
 refine WC.skip' ?_
 refine WQ.blockEnd ?_
 refine WQ.next ?_
 refine WC.region ?_
 refine pM rfl rfl ?_
 refine pP (Y.add rfl rfl (i64_in (by omega) (by omega))) rfl ?_
 refine pA rfl rfl ?_
 refine WL.nil ?_
 · refine fun a w s => ⟨m + 1, by omega, by omega, s.weak (by repeat (first | exact sub_nil _ | refine sub_cons rfl ?_))⟩
 refine WC.exit ?_
 refine WQ.thenExit ?_
 refine WQ.thenExit ?_
 refine WQ.blockExit ?_
 refine WQ.next ?_
 refine sR ?_
 refine WL.eff (E.call Try.call64 rfl (fun _ w s => w_actBegun w) rfl) rfl (fun _ => ?_)
 refine pA rfl rfl ?_
 refine nN ?_
 refine WC.ret ?_
 refine dn1 Try.results41 rfl (fun a w s => ?_)
 · refine ⟨?_, s.low⟩
   clear s
   first
     | (simp [packed]; done)
     | (have h48 := h48; have h43 := h43; simp [packed] at h43 h48 ⊢; omega)
     | rfl
end Go.Proofs.Ytdbcimadjmdffaa
