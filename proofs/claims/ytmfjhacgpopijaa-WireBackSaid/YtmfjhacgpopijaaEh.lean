/- The laws WireWrites, WireBack. No condition. -/
import Derived.Test.YtmfjhacgpopijaaEc
import Derived.Test.YtmfjhacgpopijaaEg
set_option maxRecDepth 100000
set_option linter.unusedVariables false
set_option linter.unusedSimpArgs false
set_option linter.unusedSectionVars false
set_option maxHeartbeats 4000000
namespace Go.Proofs.Ytmfjhacgpopijaa
open Go.RowKit Go.Joins
theorem wb1 : worldErr labW = 0 := by decide +kernel
theorem wb2 : readOf (labW.nums ++ [120]) = (Wd.zero, 1) := by decide +kernel
theorem wb3 : Bytes (labW.nums ++ [120]) := by unfold Bytes; decide +kernel
theorem wb4 : labW.nums.length = 66 := by decide +kernel
section
variable [Inhabited DSx] {E : Env} {n : Nat} {d : Option Nat} {x y : Operand} {T' : TypeId} {p : String} {af : Array Edge}
theorem Y.strCat {a b : List Int} {v : Value} {T2 : TypeId} (h : a.length + b.length ≤ 9223372036854775807) (hx : ev E x = some (sv a)) (hy : ev E y = some v) (hv : v = sv b) : Yp Try.prog E n ⟨d, .binOp .add 9 x y T2, T', p, af, none⟩ (sv (a ++ b)) := fun ac w s => by
  have e : (do eqGuard .add 9 x y (sv a) (sv b); binOp .add 9 (sv a) (sv b) : Sem Value).run Try.prog w = .ok (sv (a ++ b)) w := by
    have h2 := strAdd a b h w
    unfold sv at h2 ⊢
    rw [binOp_string_add]
    exact h2
  subst hv
  simp only [execOp, s.eval hx, s.eval hy]
  show (do let u ← (do eqGuard .add 9 x y (sv a) (sv b); binOp .add 9 (sv a) (sv b) : Sem Value); pure (Next.value u)).run Try.prog w = _
  rw [Sem.run_bind, e]
  rfl
end

theorem w_wireBegun (w : World) : Ret Try.prog 9 [] w (.bool true) := by
 refine enter Try.func9 rfl Try.ntmps9 rfl SF.top trivial ?_
 refine sR ?_
 refine pA rfl rfl ?_
 refine nN ?_
 refine sR ?_
 refine WL.eff (E.callB (fun g : Nat => labW.val (some ⟨g, 0, none⟩) 9) (fun g => (g, flat someL, 48)) Try.call21 rfl (fun _ w s => w_lab w) rfl) rfl (fun g8 => ?_)
 refine WL.eff (E.call Try.call5 rfl (fun _ w s => (by have hh := w_wireWrite labW (some ⟨g8, 0, none⟩) g8 0 9 w (short_max (by decide)) (by decide) (RL.ofH s (by repeat (first | exact List.Mem.head _ | apply List.Mem.tail))); rw [if_pos wb1, wb1] at hh; exact hh)) rfl) rfl (fun _ => ?_)
 refine pM rfl rfl ?_
 refine pP (Y.extract rfl rfl) rfl ?_
 refine pP (Y.extract rfl rfl) rfl ?_
 refine pA rfl rfl ?_
 refine pA rfl rfl ?_
 refine nN ?_
 refine sR ?_
 refine pM rfl rfl ?_
 refine WL.eff (E.retW (labW) [.int .i64 0] Try.call8 rfl (fun _ w s => (by have hh := w_wireRead labW.nums (wd_rd wb1).2.1 w; rw [read_nums wb1] at hh; exact hh)) rfl) rfl (fun i1 => ?_)
 refine pM rfl rfl ?_
 refine pP (Y.extract rfl rfl) rfl ?_
 refine pP (Y.extract rfl rfl) rfl ?_
 refine WL.eff (E.alloc Try.zeroValue28 rfl rfl) rfl (fun b1 => ?_)
 refine WL.eff (E.store Try.sizeOf28 rfl rfl rfl rfl rfl u0 rfl rfl) rfl (fun _ => ?_)
 refine pA rfl rfl ?_
 refine nN ?_
 refine sR ?_
 refine pM rfl rfl ?_
 refine pP (Y.strCat (b := [120]) (by rw [wb4]; decide) rfl rfl rfl) rfl ?_
 refine WL.eff (E.retW (Wd.zero) [.int .i64 1] Try.call8 rfl (fun _ w s => (by have hh := w_wireRead (labW.nums ++ [120]) wb3 w; rw [wb2] at hh; exact hh)) rfl) rfl (fun i2 => ?_)
 refine pM rfl rfl ?_
 refine pP (Y.extract rfl rfl) rfl ?_
 refine pP (Y.extract rfl rfl) rfl ?_
 refine WL.eff (E.alloc Try.zeroValue28 rfl rfl) rfl (fun b2 => ?_)
 refine WL.eff (E.store Try.sizeOf28 rfl rfl rfl rfl rfl u0 rfl rfl) rfl (fun _ => ?_)
 refine pA rfl rfl ?_
 refine nN ?_
 refine WC.seq ?_
 refine WC.drop [0] ?_
 refine WC.draw [(0, .q false), (1, .q false), (2, .q false), (3, .q false), (4, .q false), (5, .q false), (6, .q false), (7, .q false), (8, .q false), (9, .q false), (10, .q false), (11, .q false), (12, .q false), (13, .q false), (14, .q false), (15, .q false), (16, .q true), (17, .s false), (18, .q true), (19, .q false), (20, .q false)] mixed (by kernel_rfl) ?_
 refine dP (Y.move rfl) rfl rfl ?_
 refine dP (Y.eql rfl rfl) rfl rfl ?_
 refine dP (Y.move rfl) rfl rfl ?_
 refine WDm.known (t := 25) (r := true) rfl (by decide) ?_
 refine dPg rfl (Y.move rfl) rfl rfl rfl ?_
 refine dPg rfl (Y.eql rfl rfl) rfl rfl rfl ?_
 refine dP (Y.pickT rfl rfl) rfl rfl ?_
 refine dP (Y.move rfl) rfl rfl ?_
 refine WDm.known (t := 29) (r := true) rfl (by decide) ?_
 refine dPg rfl (Y.move rfl) rfl rfl rfl ?_
 refine dPg rfl (Y.eql rfl rfl) rfl rfl rfl ?_
 refine dP (Y.pickT rfl rfl) rfl rfl ?_
 refine dP (Y.move rfl) rfl rfl ?_
 refine WDm.known (t := 33) (r := true) rfl (by decide) ?_
 refine dPg rfl (Y.move rfl) rfl rfl rfl ?_
 refine dPg rfl (Y.strLen (l := labW.nums) und9 rfl) rfl rfl rfl ?_
 refine dPg rfl (Y.eql rfl rfl) rfl rfl rfl ?_
 refine dP (Y.pickT rfl rfl) rfl rfl ?_
 refine dP (Y.move rfl) rfl rfl ?_
 refine WDm.known (t := 38) (r := true) rfl (by decide) ?_
 refine dVg rfl (Y.loadAN wd_28 rfl (by repeat (first | exact List.Mem.head _ | apply List.Mem.tail)) (r := (labW).cl i1.1 i1.2) rfl) rfl rfl rfl ?_
 refine WDm.spec (WS.guardT rfl rfl rfl (E.callB (fun g : Nat => labW.val (some ⟨g, 0, none⟩) 9) (fun g => (g, flat someL, 48)) Try.call21 rfl (fun _ w s => w_lab w) rfl)) (fun _ => ext_new rfl) (fun g40 => ?_)
 refine WDm.quiet (QS.guardT rfl rfl rfl (QS.call Try.call10 rfl (fun _ w s => w_sameWorlds labW labW i1.1 (some ⟨g40, 0, none⟩) (gOf i1.1) 0 i1.2 g40 0 9 w (own_maxR s.fact.2.1.1) (own_RL s.fact.2.1.1) (RL.ofH s (by repeat (first | exact List.Mem.head _ | apply List.Mem.tail)))))) rfl rfl rfl ?_
 refine dP (Y.pickT rfl rfl) rfl rfl ?_
 refine dP (Y.assign rfl) rfl rfl ?_
 refine WDm.nil (WQ.and ?_)
 refine WQ.next ?_
 refine WC.ret ?_
 refine dn1 Try.results9 rfl (fun a w s => ?_)
 · refine ⟨?_, s.low⟩
   rfl

theorem w_WireWrites (x : Wd) (A : Option Addr) (b o c : Nat) (s9 : List Int) (hb : Bytes s9) (w : World) (hm : x.log.length ≤ maxLen) (hcap : x.log.length ≤ c) (hr : RL w A b o x.log) : Ret Try.prog 3 [x.val A c, sv s9] w (.bool true) := by
 refine enter Try.func3 rfl Try.ntmps3 rfl SF.top trivial ?_
 refine sR ?_
 refine WL.eff (E.box rfl rfl rfl) rfl (fun b1 => ?_)
 refine pA rfl rfl ?_
 refine nN ?_
 refine sR ?_
 refine pV (Y.loadAN wd_28 rfl (by repeat (first | exact List.Mem.head _ | apply List.Mem.tail)) (r := (x).cl A c) rfl) rfl ?_
 refine WL.eff (E.call Try.call5 rfl (fun _ w s => w_wireWrite x A b o c w hm hcap (hr.below s.low)) rfl) rfl (fun _ => ?_)
 refine pM rfl rfl ?_
 refine pP (Y.extract rfl rfl) rfl ?_
 refine pP (Y.extract rfl rfl) rfl ?_
 refine pA rfl rfl ?_
 refine pA rfl rfl ?_
 refine nN ?_
 refine sR ?_
 refine pV (Y.loadAN wd_28 rfl (by repeat (first | exact List.Mem.head _ | apply List.Mem.tail)) (r := (x).cl A c) rfl) rfl ?_
 refine WL.eff (E.call Try.call6 rfl (fun _ w s => w_worldError x A b o c w hm hcap (hr.below s.low)) rfl) rfl (fun _ => ?_)
 refine pA rfl rfl ?_
 refine nN ?_
 refine sR ?_
 refine pA rfl rfl ?_
 refine nN ?_
 refine WC.seq ?_
 refine sR ?_
 refine pM rfl rfl ?_
 refine pP (Y.eql rfl rfl) rfl ?_
 refine nN ?_
 refine WC.cond rfl (fun h22 => ?_) (fun h22 => ?_)
 have h0 : worldErr x = 0 := by have h22 := h22; simpa using h22
 have hbx := (wd_rd h0).2.1
 rw [if_pos h0]
 refine WC.region ?_
 refine pV (Y.loadAN wd_28 rfl (by repeat (first | exact List.Mem.head _ | apply List.Mem.tail)) (r := (x).cl A c) rfl) rfl ?_
 refine WL.eff (E.call Try.call7 rfl (fun _ w s => w_worldBytes x A b o c w h0 (hr.below s.low)) rfl) rfl (fun _ => ?_)
 refine pA rfl rfl ?_
 refine nN ?_
 refine sR ?_
 refine pM rfl rfl ?_
 refine WL.eff (E.retW ((readOf s9).1) [.int .i64 (readOf s9).2] Try.call8 rfl (fun _ w s => w_wireRead s9 hb w) rfl) rfl (fun i => ?_)
 refine pM rfl rfl ?_
 refine pP (Y.extract rfl rfl) rfl ?_
 refine pP (Y.extract rfl rfl) rfl ?_
 refine WL.eff (E.alloc Try.zeroValue28 rfl rfl) rfl (fun b2 => ?_)
 refine WL.eff (E.store Try.sizeOf28 rfl rfl rfl rfl rfl u0 rfl rfl) rfl (fun _ => ?_)
 refine pA rfl rfl ?_
 refine nN ?_
 refine WC.seq ?_
 refine sR ?_
 refine pM rfl rfl ?_
 refine pP (Y.strLen und9 rfl) rfl ?_
 refine pP (Y.gtr rfl rfl) rfl ?_
 refine nN ?_
 refine WC.cond rfl (fun h32 => ?_) (fun h32 => ?_)
 refine WC.seq ?_
 have eR : readOf s9 = (Wd.zero, 2) := by
   unfold readOf
   rw [if_neg (by have h32 := h32; simp at h32; omega)]
 rw [eR]
 dsimp only
 refine WC.region ?_
 refine WL.eff (E.call Try.call9 rfl (fun _ w s => w_wireBegun w) rfl) rfl (fun _ => ?_)
 refine pM rfl rfl ?_
 refine gT rfl ?_
 refine pM rfl rfl ?_
 refine gT rfl ?_
 refine pM rfl rfl ?_
 refine gT rfl ?_
 refine pP (Y.strEql (a := x.nums) (b := x.nums) hbx hbx rfl rfl rfl) rfl ?_
 refine pP (Y.pickT rfl rfl) rfl ?_
 refine pM rfl rfl ?_
 refine WL.known (t := 39) (r := true) rfl (by simp) ?_
 refine gT rfl ?_
 refine pM rfl rfl ?_
 refine gT rfl ?_
 refine pM rfl rfl ?_
 refine gT rfl ?_
 refine pP (Y.eql rfl rfl) rfl ?_
 refine pP (Y.pickT rfl rfl) rfl ?_
 refine pM rfl rfl ?_
 refine WL.known (t := 44) (r := true) rfl (by simp) ?_
 refine gT rfl ?_
 refine pM rfl rfl ?_
 refine gT rfl ?_
 refine pP (Y.eql rfl rfl) rfl ?_
 refine pP (Y.pickT rfl rfl) rfl ?_
 refine pM rfl rfl ?_
 refine WL.known (t := 48) (r := true) rfl (rfl) ?_
 refine gT rfl ?_
 refine pV (Y.loadAN wd_28 rfl (by repeat (first | exact List.Mem.head _ | apply List.Mem.tail)) (r := (Wd.zero).cl i.1 i.2) rfl) rfl ?_
 refine gT rfl ?_
 refine pP (Y.build rfl (bf_28 )) rfl ?_
 refine gT rfl ?_
 refine WL.eff (E.call Try.call10 rfl (fun _ w s => w_sameWorlds Wd.zero Wd.zero i.1 none (gOf i.1) 0 i.2 0 0 0 w (own_maxR s.fact.1) (own_RL s.fact.1) (nilRL _)) rfl) rfl (fun _ => ?_)
 refine pP (Y.pickT rfl rfl) rfl ?_
 refine pA rfl rfl ?_
 refine nN ?_
 refine WC.ret ?_
 refine WQ.thenRet ?_
 refine dn1 Try.results3 rfl (fun a w s => ?_)
 · refine ⟨?_, s.low⟩
   simp [packed]
 refine WC.skip' ?_
 refine WQ.next ?_
 refine WC.seq ?_
 have hs9 : s9.length ≤ 4096 := by have h32 := h32; simp at h32; omega
 have eR := read_from s9 hs9
 rw [eR]
 dsimp only
 refine WC.region ?_
 refine pM rfl rfl ?_
 refine WL.eff (E.retW ((fromOf s9).1) [.bool (fromOf s9).2] Try.call11 rfl (fun _ w s => w_worldFrom s9 hb w hs9) rfl) rfl (fun j => ?_)
 refine pM rfl rfl ?_
 refine pP (Y.extract rfl rfl) rfl ?_
 refine pP (Y.extract rfl rfl) rfl ?_
 refine WL.eff (E.alloc Try.zeroValue28 rfl rfl) rfl (fun b3 => ?_)
 refine WL.eff (E.store Try.sizeOf28 rfl rfl rfl rfl rfl u0 rfl rfl) rfl (fun _ => ?_)
 refine pA rfl rfl ?_
 refine nN ?_
 refine sR ?_
 refine pA rfl rfl ?_
 refine nN ?_
 refine WC.seq ?_
 refine sR ?_
 refine pM rfl rfl ?_
 refine pP (Y.not rfl) rfl ?_
 refine nN ?_
 refine WC.cond rfl (fun h59 => ?_) (fun h59 => ?_)
 refine WC.region ?_
 refine pA rfl rfl ?_
 refine nN ?_
 refine sR ?_
 refine WL.eff (E.call Try.call9 rfl (fun _ w s => w_wireBegun w) rfl) rfl (fun _ => ?_)
 refine pM rfl rfl ?_
 refine gT rfl ?_
 refine pM rfl rfl ?_
 refine gT rfl ?_
 refine pM rfl rfl ?_
 refine gT rfl ?_
 refine pP (Y.strEql (a := x.nums) (b := x.nums) hbx hbx rfl rfl rfl) rfl ?_
 refine pP (Y.pickT rfl rfl) rfl ?_
 refine pM rfl rfl ?_
 refine WL.known (t := 66) (r := true) rfl (by simp) ?_
 refine gT rfl ?_
 refine pM rfl rfl ?_
 refine gT rfl ?_
 refine pM rfl rfl ?_
 refine gT rfl ?_
 refine pP (Y.eql rfl rfl) rfl ?_
 refine pP (Y.pickT rfl rfl) rfl ?_
 refine pM rfl rfl ?_
 refine WL.known (t := 71) (r := true) rfl (by simp) ?_
 refine gT rfl ?_
 refine pM rfl rfl ?_
 refine gT rfl ?_
 refine pM rfl rfl ?_
 refine gT rfl ?_
 refine pP (Y.eql rfl rfl) rfl ?_
 refine pP (Y.pickT rfl rfl) rfl ?_
 refine pM rfl rfl ?_
 refine WL.known (t := 76) (r := true) rfl (by have h59 := h59; simp at h59; simp [h59]) ?_
 refine gT rfl ?_
 refine pV (Y.loadAN wd_28 rfl (by repeat (first | exact List.Mem.head _ | apply List.Mem.tail)) (r := ((fromOf s9).1).cl i.1 i.2) rfl) rfl ?_
 refine gT rfl ?_
 refine pV (Y.loadAN wd_28 rfl (by repeat (first | exact List.Mem.head _ | apply List.Mem.tail)) (r := ((fromOf s9).1).cl j.1 j.2) rfl) rfl ?_
 refine gT rfl ?_
 refine WL.eff (E.call Try.call10 rfl (fun _ w s => w_sameWorlds (fromOf s9).1 (fromOf s9).1 i.1 j.1 (gOf i.1) 0 i.2 (gOf j.1) 0 j.2 w (own_maxR s.fact.2.1.1) (own_RL s.fact.2.1.1) (own_RL s.fact.1)) rfl) rfl (fun _ => ?_)
 refine pP (Y.pickT rfl rfl) rfl ?_
 refine pA rfl rfl ?_
 refine nN ?_
 refine WC.ret ?_
 refine dn1 Try.results3 rfl (fun a w s => ?_)
 · refine ⟨?_, s.low⟩
   simp [packed]
 refine WC.skip' ?_
 refine WQ.next ?_
 refine sR ?_
 refine WL.eff (E.call Try.call9 rfl (fun _ w s => w_wireBegun w) rfl) rfl (fun _ => ?_)
 refine pM rfl rfl ?_
 refine gT rfl ?_
 refine pM rfl rfl ?_
 refine gT rfl ?_
 refine pM rfl rfl ?_
 refine gT rfl ?_
 refine pP (Y.strEql (a := x.nums) (b := x.nums) hbx hbx rfl rfl rfl) rfl ?_
 refine pP (Y.pickT rfl rfl) rfl ?_
 refine pM rfl rfl ?_
 refine WL.known (t := 66) (r := true) rfl (by simp) ?_
 refine gT rfl ?_
 refine pM rfl rfl ?_
 refine gT rfl ?_
 refine pM rfl rfl ?_
 refine gT rfl ?_
 refine pP (Y.eql rfl rfl) rfl ?_
 refine pP (Y.pickT rfl rfl) rfl ?_
 refine pM rfl rfl ?_
 refine WL.known (t := 71) (r := true) rfl (by simp) ?_
 refine gT rfl ?_
 refine pM rfl rfl ?_
 refine gT rfl ?_
 refine pM rfl rfl ?_
 refine gT rfl ?_
 refine pP (Y.eql rfl rfl) rfl ?_
 refine pP (Y.pickT rfl rfl) rfl ?_
 refine pM rfl rfl ?_
 refine WL.known (t := 76) (r := true) rfl (by have h59 := h59; simp at h59; simp [h59]) ?_
 refine gT rfl ?_
 refine pV (Y.loadAN wd_28 rfl (by repeat (first | exact List.Mem.head _ | apply List.Mem.tail)) (r := ((fromOf s9).1).cl i.1 i.2) rfl) rfl ?_
 refine gT rfl ?_
 refine pV (Y.loadAN wd_28 rfl (by repeat (first | exact List.Mem.head _ | apply List.Mem.tail)) (r := ((fromOf s9).1).cl j.1 j.2) rfl) rfl ?_
 refine gT rfl ?_
 refine WL.eff (E.call Try.call10 rfl (fun _ w s => w_sameWorlds (fromOf s9).1 (fromOf s9).1 i.1 j.1 (gOf i.1) 0 i.2 (gOf j.1) 0 j.2 w (own_maxR s.fact.2.1.1) (own_RL s.fact.2.1.1) (own_RL s.fact.1)) rfl) rfl (fun _ => ?_)
 refine pP (Y.pickT rfl rfl) rfl ?_
 refine pA rfl rfl ?_
 refine nN ?_
 refine WC.ret ?_
 refine dn1 Try.results3 rfl (fun a w s => ?_)
 · refine ⟨?_, s.low⟩
   simp [packed]
 refine WC.skip' ?_
 refine WQ.next ?_
 refine WC.seq ?_
 have h0 : ¬ worldErr x = 0 := by have h22 := h22; simpa using h22
 rw [if_neg h0]
 refine WC.region ?_
 refine pM rfl rfl ?_
 refine WL.eff (E.retW ((readOf s9).1) [.int .i64 (readOf s9).2] Try.call8 rfl (fun _ w s => w_wireRead s9 hb w) rfl) rfl (fun i => ?_)
 refine pM rfl rfl ?_
 refine pP (Y.extract rfl rfl) rfl ?_
 refine pP (Y.extract rfl rfl) rfl ?_
 refine WL.eff (E.alloc Try.zeroValue28 rfl rfl) rfl (fun b4 => ?_)
 refine WL.eff (E.store Try.sizeOf28 rfl rfl rfl rfl rfl u0 rfl rfl) rfl (fun _ => ?_)
 refine pA rfl rfl ?_
 refine nN ?_
 refine WC.seq ?_
 refine sR ?_
 refine pM rfl rfl ?_
 refine pP (Y.strLen und9 rfl) rfl ?_
 refine pP (Y.gtr rfl rfl) rfl ?_
 refine nN ?_
 refine WC.cond rfl (fun h32 => ?_) (fun h32 => ?_)
 refine WC.seq ?_
 have eR : readOf s9 = (Wd.zero, 2) := by
   unfold readOf
   rw [if_neg (by have h32 := h32; simp at h32; omega)]
 rw [eR]
 dsimp only
 refine WC.region ?_
 refine WL.eff (E.call Try.call9 rfl (fun _ w s => w_wireBegun w) rfl) rfl (fun _ => ?_)
 refine pM rfl rfl ?_
 refine gT rfl ?_
 refine pM rfl rfl ?_
 refine gT rfl ?_
 refine pM rfl rfl ?_
 refine gT rfl ?_
 refine pP (Y.strEql (a := []) (b := []) Bytes.nil Bytes.nil rfl rfl rfl) rfl ?_
 refine pP (Y.pickT rfl rfl) rfl ?_
 refine pM rfl rfl ?_
 refine WL.known (t := 39) (r := true) rfl (by simp) ?_
 refine gT rfl ?_
 refine pM rfl rfl ?_
 refine gT rfl ?_
 refine pM rfl rfl ?_
 refine gT rfl ?_
 refine pP (Y.eql rfl rfl) rfl ?_
 refine pP (Y.pickT rfl rfl) rfl ?_
 refine pM rfl rfl ?_
 refine WL.known (t := 44) (r := true) rfl (by simp) ?_
 refine gT rfl ?_
 refine pM rfl rfl ?_
 refine gT rfl ?_
 refine pP (Y.eql rfl rfl) rfl ?_
 refine pP (Y.pickT rfl rfl) rfl ?_
 refine pM rfl rfl ?_
 refine WL.known (t := 48) (r := true) rfl (rfl) ?_
 refine gT rfl ?_
 refine pV (Y.loadAN wd_28 rfl (by repeat (first | exact List.Mem.head _ | apply List.Mem.tail)) (r := (Wd.zero).cl i.1 i.2) rfl) rfl ?_
 refine gT rfl ?_
 refine pP (Y.build rfl (bf_28 )) rfl ?_
 refine gT rfl ?_
 refine WL.eff (E.call Try.call10 rfl (fun _ w s => w_sameWorlds Wd.zero Wd.zero i.1 none (gOf i.1) 0 i.2 0 0 0 w (own_maxR s.fact.1) (own_RL s.fact.1) (nilRL _)) rfl) rfl (fun _ => ?_)
 refine pP (Y.pickT rfl rfl) rfl ?_
 refine pA rfl rfl ?_
 refine nN ?_
 refine WC.ret ?_
 refine WQ.thenRet ?_
 refine dn1 Try.results3 rfl (fun a w s => ?_)
 · refine ⟨?_, s.low⟩
   simp [packed]
 refine WC.skip' ?_
 refine WQ.next ?_
 refine WC.seq ?_
 have hs9 : s9.length ≤ 4096 := by have h32 := h32; simp at h32; omega
 have eR := read_from s9 hs9
 rw [eR]
 dsimp only
 refine WC.region ?_
 refine pM rfl rfl ?_
 refine WL.eff (E.retW ((fromOf s9).1) [.bool (fromOf s9).2] Try.call11 rfl (fun _ w s => w_worldFrom s9 hb w hs9) rfl) rfl (fun j => ?_)
 refine pM rfl rfl ?_
 refine pP (Y.extract rfl rfl) rfl ?_
 refine pP (Y.extract rfl rfl) rfl ?_
 refine WL.eff (E.alloc Try.zeroValue28 rfl rfl) rfl (fun b5 => ?_)
 refine WL.eff (E.store Try.sizeOf28 rfl rfl rfl rfl rfl u0 rfl rfl) rfl (fun _ => ?_)
 refine pA rfl rfl ?_
 refine nN ?_
 refine sR ?_
 refine pA rfl rfl ?_
 refine nN ?_
 refine WC.seq ?_
 refine sR ?_
 refine pM rfl rfl ?_
 refine pP (Y.not rfl) rfl ?_
 refine nN ?_
 refine WC.cond rfl (fun h59 => ?_) (fun h59 => ?_)
 refine WC.region ?_
 refine pA rfl rfl ?_
 refine nN ?_
 refine sR ?_
 refine WL.eff (E.call Try.call9 rfl (fun _ w s => w_wireBegun w) rfl) rfl (fun _ => ?_)
 refine pM rfl rfl ?_
 refine gT rfl ?_
 refine pM rfl rfl ?_
 refine gT rfl ?_
 refine pM rfl rfl ?_
 refine gT rfl ?_
 refine pP (Y.strEql (a := []) (b := []) Bytes.nil Bytes.nil rfl rfl rfl) rfl ?_
 refine pP (Y.pickT rfl rfl) rfl ?_
 refine pM rfl rfl ?_
 refine WL.known (t := 66) (r := true) rfl (by simp) ?_
 refine gT rfl ?_
 refine pM rfl rfl ?_
 refine gT rfl ?_
 refine pM rfl rfl ?_
 refine gT rfl ?_
 refine pP (Y.eql rfl rfl) rfl ?_
 refine pP (Y.pickT rfl rfl) rfl ?_
 refine pM rfl rfl ?_
 refine WL.known (t := 71) (r := true) rfl (by simp) ?_
 refine gT rfl ?_
 refine pM rfl rfl ?_
 refine gT rfl ?_
 refine pM rfl rfl ?_
 refine gT rfl ?_
 refine pP (Y.eql rfl rfl) rfl ?_
 refine pP (Y.pickT rfl rfl) rfl ?_
 refine pM rfl rfl ?_
 refine WL.known (t := 76) (r := true) rfl (by have h59 := h59; simp at h59; simp [h59]) ?_
 refine gT rfl ?_
 refine pV (Y.loadAN wd_28 rfl (by repeat (first | exact List.Mem.head _ | apply List.Mem.tail)) (r := ((fromOf s9).1).cl i.1 i.2) rfl) rfl ?_
 refine gT rfl ?_
 refine pV (Y.loadAN wd_28 rfl (by repeat (first | exact List.Mem.head _ | apply List.Mem.tail)) (r := ((fromOf s9).1).cl j.1 j.2) rfl) rfl ?_
 refine gT rfl ?_
 refine WL.eff (E.call Try.call10 rfl (fun _ w s => w_sameWorlds (fromOf s9).1 (fromOf s9).1 i.1 j.1 (gOf i.1) 0 i.2 (gOf j.1) 0 j.2 w (own_maxR s.fact.2.1.1) (own_RL s.fact.2.1.1) (own_RL s.fact.1)) rfl) rfl (fun _ => ?_)
 refine pP (Y.pickT rfl rfl) rfl ?_
 refine pA rfl rfl ?_
 refine nN ?_
 refine WC.ret ?_
 refine dn1 Try.results3 rfl (fun a w s => ?_)
 · refine ⟨?_, s.low⟩
   simp [packed]
 refine WC.skip' ?_
 refine WQ.next ?_
 refine sR ?_
 refine WL.eff (E.call Try.call9 rfl (fun _ w s => w_wireBegun w) rfl) rfl (fun _ => ?_)
 refine pM rfl rfl ?_
 refine gT rfl ?_
 refine pM rfl rfl ?_
 refine gT rfl ?_
 refine pM rfl rfl ?_
 refine gT rfl ?_
 refine pP (Y.strEql (a := []) (b := []) Bytes.nil Bytes.nil rfl rfl rfl) rfl ?_
 refine pP (Y.pickT rfl rfl) rfl ?_
 refine pM rfl rfl ?_
 refine WL.known (t := 66) (r := true) rfl (by simp) ?_
 refine gT rfl ?_
 refine pM rfl rfl ?_
 refine gT rfl ?_
 refine pM rfl rfl ?_
 refine gT rfl ?_
 refine pP (Y.eql rfl rfl) rfl ?_
 refine pP (Y.pickT rfl rfl) rfl ?_
 refine pM rfl rfl ?_
 refine WL.known (t := 71) (r := true) rfl (by simp) ?_
 refine gT rfl ?_
 refine pM rfl rfl ?_
 refine gT rfl ?_
 refine pM rfl rfl ?_
 refine gT rfl ?_
 refine pP (Y.eql rfl rfl) rfl ?_
 refine pP (Y.pickT rfl rfl) rfl ?_
 refine pM rfl rfl ?_
 refine WL.known (t := 76) (r := true) rfl (by have h59 := h59; simp at h59; simp [h59]) ?_
 refine gT rfl ?_
 refine pV (Y.loadAN wd_28 rfl (by repeat (first | exact List.Mem.head _ | apply List.Mem.tail)) (r := ((fromOf s9).1).cl i.1 i.2) rfl) rfl ?_
 refine gT rfl ?_
 refine pV (Y.loadAN wd_28 rfl (by repeat (first | exact List.Mem.head _ | apply List.Mem.tail)) (r := ((fromOf s9).1).cl j.1 j.2) rfl) rfl ?_
 refine gT rfl ?_
 refine WL.eff (E.call Try.call10 rfl (fun _ w s => w_sameWorlds (fromOf s9).1 (fromOf s9).1 i.1 j.1 (gOf i.1) 0 i.2 (gOf j.1) 0 j.2 w (own_maxR s.fact.2.1.1) (own_RL s.fact.2.1.1) (own_RL s.fact.1)) rfl) rfl (fun _ => ?_)
 refine pP (Y.pickT rfl rfl) rfl ?_
 refine pA rfl rfl ?_
 refine nN ?_
 refine WC.ret ?_
 refine dn1 Try.results3 rfl (fun a w s => ?_)
 · refine ⟨?_, s.low⟩
   simp [packed]

theorem w_WireBack (x : Wd) (A : Option Addr) (b o c : Nat) (s9 : List Int) (hb : Bytes s9) (w : World) (hm : x.log.length ≤ maxLen) (hcap : x.log.length ≤ c) (hr : RL w A b o x.log) : Ret Try.prog 4 [x.val A c, sv s9] w (.bool true) := by
 refine enter Try.func4 rfl Try.ntmps4 rfl SF.top trivial ?_
 refine sR ?_
 refine WL.eff (E.box rfl rfl rfl) rfl (fun b1 => ?_)
 refine pA rfl rfl ?_
 refine nN ?_
 refine sR ?_
 refine pV (Y.loadAN wd_28 rfl (by repeat (first | exact List.Mem.head _ | apply List.Mem.tail)) (r := (x).cl A c) rfl) rfl ?_
 refine WL.eff (E.call Try.call5 rfl (fun _ w s => w_wireWrite x A b o c w hm hcap (hr.below s.low)) rfl) rfl (fun _ => ?_)
 refine pM rfl rfl ?_
 refine pP (Y.extract rfl rfl) rfl ?_
 refine pP (Y.extract rfl rfl) rfl ?_
 refine pA rfl rfl ?_
 refine pA rfl rfl ?_
 refine nN ?_
 refine WC.seq ?_
 refine sR ?_
 refine pM rfl rfl ?_
 refine pP (Y.eql rfl rfl) rfl ?_
 refine nN ?_
 refine WC.cond rfl (fun h19 => ?_) (fun h19 => ?_)
 refine WC.seq ?_
 have h0 : worldErr x = 0 := by have h19 := h19; simpa using h19
 have hbx := (wd_rd h0).2.1
 rw [if_pos h0]
 refine WC.region ?_
 refine pM rfl rfl ?_
 refine WL.eff (E.retW (x) [.int .i64 0] Try.call8 rfl (fun _ w s => (by have hh := w_wireRead x.nums hbx w; rw [read_nums h0] at hh; exact hh)) rfl) rfl (fun i => ?_)
 refine pM rfl rfl ?_
 refine pP (Y.extract rfl rfl) rfl ?_
 refine pP (Y.extract rfl rfl) rfl ?_
 refine WL.eff (E.alloc Try.zeroValue28 rfl rfl) rfl (fun b2 => ?_)
 refine WL.eff (E.store Try.sizeOf28 rfl rfl rfl rfl rfl u0 rfl rfl) rfl (fun _ => ?_)
 refine pA rfl rfl ?_
 refine nN ?_
 refine sR ?_
 refine pM rfl rfl ?_
 refine pP (Y.neq rfl rfl) rfl ?_
 refine pM rfl rfl ?_
 refine WL.known (t := 27) (r := false) rfl (rfl) ?_
 refine gT rfl ?_
 refine pV (Y.loadAN wd_28 rfl (by repeat (first | exact List.Mem.head _ | apply List.Mem.tail)) (r := (x).cl i.1 i.2) rfl) rfl ?_
 refine gT rfl ?_
 refine pV (Y.loadAN wd_28 rfl (by repeat (first | exact List.Mem.head _ | apply List.Mem.tail)) (r := (x).cl A c) rfl) rfl ?_
 refine gT rfl ?_
 refine WL.eff (E.call Try.call10 rfl (fun _ w s => w_sameWorlds x x i.1 A (gOf i.1) 0 i.2 b o c w (own_maxR s.fact.1) (own_RL s.fact.1) (hr.below s.low)) rfl) rfl (fun _ => ?_)
 refine gT rfl ?_
 refine pP (Y.not rfl) rfl ?_
 refine pP (Y.pickF rfl rfl) rfl ?_
 refine nN ?_
 refine WC.isF rfl (by simp) ?_
 refine WC.skip' ?_
 refine WQ.next ?_
 refine sR ?_
 refine pM rfl rfl ?_
 refine WL.eff (E.retW ((readOf s9).1) [.int .i64 (readOf s9).2] Try.call8 rfl (fun _ w s => w_wireRead s9 hb w) rfl) rfl (fun j => ?_)
 refine pM rfl rfl ?_
 refine pP (Y.extract rfl rfl) rfl ?_
 refine pP (Y.extract rfl rfl) rfl ?_
 refine WL.eff (E.alloc Try.zeroValue28 rfl rfl) rfl (fun b3 => ?_)
 refine WL.eff (E.store Try.sizeOf28 rfl rfl rfl rfl rfl u0 rfl rfl) rfl (fun _ => ?_)
 refine pA rfl rfl ?_
 refine nN ?_
 refine WC.seq ?_
 refine sR ?_
 refine pM rfl rfl ?_
 refine pP (Y.neq rfl rfl) rfl ?_
 refine nN ?_
 refine WC.cond rfl (fun h39 => ?_) (fun h39 => ?_)
 refine sR ?_
 refine WL.eff (E.call Try.call9 rfl (fun _ w s => w_wireBegun w) rfl) rfl (fun _ => ?_)
 refine pA rfl rfl ?_
 refine nN ?_
 refine WC.ret ?_
 refine WQ.thenRet ?_
 refine dn1 Try.results4 rfl (fun a w s => ?_)
 · refine ⟨?_, s.low⟩
   simp [packed]
 refine WC.skip' ?_
 refine WQ.next ?_
 refine WC.seq ?_
 have hy2 : (readOf s9).2 = 0 := by have h39 := h39; simpa using h39
 obtain ⟨hy0, hyn⟩ := read_back hy2
 refine WC.region ?_
 refine pV (Y.loadAN wd_28 rfl (by repeat (first | exact List.Mem.head _ | apply List.Mem.tail)) (r := ((readOf s9).1).cl j.1 j.2) rfl) rfl ?_
 refine WL.eff (E.call Try.call5 rfl (fun _ w s => (by have hh := w_wireWrite (readOf s9).1 j.1 (gOf j.1) 0 j.2 w (own_maxR s.fact.1) (own_le s.fact.1) (own_RL s.fact.1); rw [if_pos hy0, hy0, hyn] at hh; exact hh)) rfl) rfl (fun _ => ?_)
 refine pM rfl rfl ?_
 refine pP (Y.extract rfl rfl) rfl ?_
 refine pP (Y.extract rfl rfl) rfl ?_
 refine pA rfl rfl ?_
 refine pA rfl rfl ?_
 refine nN ?_
 refine sR ?_
 refine WL.eff (E.call Try.call9 rfl (fun _ w s => w_wireBegun w) rfl) rfl (fun _ => ?_)
 refine pM rfl rfl ?_
 refine gT rfl ?_
 refine pM rfl rfl ?_
 refine gT rfl ?_
 refine pP (Y.eql rfl rfl) rfl ?_
 refine pP (Y.pickT rfl rfl) rfl ?_
 refine pM rfl rfl ?_
 refine WL.known (t := 51) (r := true) rfl (rfl) ?_
 refine gT rfl ?_
 refine pM rfl rfl ?_
 refine gT rfl ?_
 refine pM rfl rfl ?_
 refine gT rfl ?_
 refine pP (Y.strEql hb hb rfl rfl rfl) rfl ?_
 refine pP (Y.pickT rfl rfl) rfl ?_
 refine pA rfl rfl ?_
 refine nN ?_
 refine WC.ret ?_
 refine dn1 Try.results4 rfl (fun a w s => ?_)
 · refine ⟨?_, s.low⟩
   simp [packed]
 refine WC.skip' ?_
 refine WQ.next ?_
 refine sR ?_
 refine pM rfl rfl ?_
 refine WL.eff (E.retW ((readOf s9).1) [.int .i64 (readOf s9).2] Try.call8 rfl (fun _ w s => w_wireRead s9 hb w) rfl) rfl (fun j => ?_)
 refine pM rfl rfl ?_
 refine pP (Y.extract rfl rfl) rfl ?_
 refine pP (Y.extract rfl rfl) rfl ?_
 refine WL.eff (E.alloc Try.zeroValue28 rfl rfl) rfl (fun b4 => ?_)
 refine WL.eff (E.store Try.sizeOf28 rfl rfl rfl rfl rfl u0 rfl rfl) rfl (fun _ => ?_)
 refine pA rfl rfl ?_
 refine nN ?_
 refine WC.seq ?_
 refine sR ?_
 refine pM rfl rfl ?_
 refine pP (Y.neq rfl rfl) rfl ?_
 refine nN ?_
 refine WC.cond rfl (fun h39 => ?_) (fun h39 => ?_)
 refine sR ?_
 refine WL.eff (E.call Try.call9 rfl (fun _ w s => w_wireBegun w) rfl) rfl (fun _ => ?_)
 refine pA rfl rfl ?_
 refine nN ?_
 refine WC.ret ?_
 refine WQ.thenRet ?_
 refine dn1 Try.results4 rfl (fun a w s => ?_)
 · refine ⟨?_, s.low⟩
   simp [packed]
 refine WC.skip' ?_
 refine WQ.next ?_
 refine WC.seq ?_
 have hy2 : (readOf s9).2 = 0 := by have h39 := h39; simpa using h39
 obtain ⟨hy0, hyn⟩ := read_back hy2
 refine WC.region ?_
 refine pV (Y.loadAN wd_28 rfl (by repeat (first | exact List.Mem.head _ | apply List.Mem.tail)) (r := ((readOf s9).1).cl j.1 j.2) rfl) rfl ?_
 refine WL.eff (E.call Try.call5 rfl (fun _ w s => (by have hh := w_wireWrite (readOf s9).1 j.1 (gOf j.1) 0 j.2 w (own_maxR s.fact.1) (own_le s.fact.1) (own_RL s.fact.1); rw [if_pos hy0, hy0, hyn] at hh; exact hh)) rfl) rfl (fun _ => ?_)
 refine pM rfl rfl ?_
 refine pP (Y.extract rfl rfl) rfl ?_
 refine pP (Y.extract rfl rfl) rfl ?_
 refine pA rfl rfl ?_
 refine pA rfl rfl ?_
 refine nN ?_
 refine sR ?_
 refine WL.eff (E.call Try.call9 rfl (fun _ w s => w_wireBegun w) rfl) rfl (fun _ => ?_)
 refine pM rfl rfl ?_
 refine gT rfl ?_
 refine pM rfl rfl ?_
 refine gT rfl ?_
 refine pP (Y.eql rfl rfl) rfl ?_
 refine pP (Y.pickT rfl rfl) rfl ?_
 refine pM rfl rfl ?_
 refine WL.known (t := 51) (r := true) rfl (rfl) ?_
 refine gT rfl ?_
 refine pM rfl rfl ?_
 refine gT rfl ?_
 refine pM rfl rfl ?_
 refine gT rfl ?_
 refine pP (Y.strEql hb hb rfl rfl rfl) rfl ?_
 refine pP (Y.pickT rfl rfl) rfl ?_
 refine pA rfl rfl ?_
 refine nN ?_
 refine WC.ret ?_
 refine dn1 Try.results4 rfl (fun a w s => ?_)
 · refine ⟨?_, s.low⟩
   simp [packed]
end Go.Proofs.Ytmfjhacgpopijaa
