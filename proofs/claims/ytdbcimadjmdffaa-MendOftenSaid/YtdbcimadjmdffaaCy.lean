/- The law MendOften. No condition. -/
import Derived.Test.YtdbcimadjmdffaaCw
import Derived.Test.YtdbcimadjmdffaaOx
import Derived.Test.YtdbcimadjmdffaaSe
set_option maxRecDepth 100000
set_option linter.unusedVariables false
set_option linter.unusedSimpArgs false
set_option linter.unusedSectionVars false
set_option maxHeartbeats 4000000
namespace Go.Proofs.Ytdbcimadjmdffaa
open Go.RowKit Go.Joins
section
variable [Inhabited DSx] {P : Program} {E : Env} {n : Nat} {d : Option Nat} {x y : Operand} {T T' T2 : TypeId} {p : String} {af : Array Edge} {k : IntKind} {i j r : Int}
theorem Y.quo (hx : ev E x = some (.int k i)) (hy : ev E y = some (.int k j)) (h0 : j ≠ 0) (hr : k.wrap (i.tdiv j) = r) : Yp P E n ⟨d, .binOp .quo T x y T2, T', p, af, none⟩ (.int k r) := fun a w s => by
  simp [execOp, s.eval hx, s.eval hy, eqGuard, binOp, Op.intArith, Op.intDiv, h0, hr]
end
/-- Records that lie somewhere, and may be read. -/
def SF.rl (A : Option Addr) (b o : Nat) (l : List R) : SF where
  p w := RL w A b o l
  fp _ x := l ≠ [] ∧ x = b
  lt w x h e := by rw [e.2]; exact (h.at_ e.1).2
  st w w' h k := by
    refine ⟨⟨fun hn => ⟨(h.at_ hn).1, ?_⟩, fun i r hi j v hv => ?_⟩, fun x e => e⟩
    · have h1 := k b ⟨hn, rfl⟩
      have h2 := (h.at_ hn).2
      rw [Array.getElem?_eq_getElem h2] at h1
      exact blk_lt h1
    · have h1 := k b ⟨ne_of_get hi, rfl⟩
      have h2 := h.cell i r hi j v hv
      unfold World.cell? at h2 ⊢
      dsimp only at h2 ⊢
      rw [h1]
      exact h2
theorem rl_of_own (base c : Nat) (A : Option Addr) (l : List R) : (SF.own base 34 8 (.slice A l.length c) l.length (flat l)).le (SF.rl A (gOf A) 0 l) := fun w h => ⟨own_RL h, fun x e => by
  obtain ⟨e1, _⟩ := (own_RL h).at_ e.1
  rw [e1, e.2]
  show Value.ownBlock _ = some _
  rw [e1]
  rfl⟩
theorem rl_start [Inhabited DSx] {P : Program} {c : Code} {Q : Exit → Act → World → Prop} {E : Env} {n : Nat} {H : Hp} {F : SF} {w0 : World} {A : Option Addr} {b o : Nat} {l : List R} (hr : RL w0 A b o l) (hF : ∀ w, F.p w → ∀ x, F.fp w x → w0.heap.size ≤ x) (h : WC P c Q E n H ((SF.rl A b o l).sep F) w0) : WC P c Q E n H F w0 := fun a w s => by
  have hb : l ≠ [] → b < w0.heap.size := fun hn => (hr.at_ hn).2
  refine h a w ⟨s.env, s.hp, ⟨hr.below s.low, s.fact, fun x e k => ?_⟩, fun x hx e => ?_, s.low⟩
  · have := hF w s.fact x k
    have := hb e.1
    rw [e.2] at *
    omega
  · rcases e with e | e
    · have h1 := (s.hp.blk x hx).2
      have h2 := hb e.1
      rw [e.2] at h1
      omega
    · exact s.sep x hx e
theorem tdiv_bnd {n : Int} (h : 0 ≤ n) (k : Int) (hk : 0 < k) : 0 ≤ n.tdiv k ∧ n.tdiv k ≤ n := by
  rw [Int.tdiv_eq_ediv_of_nonneg h]
  exact ⟨Int.ediv_nonneg h (by omega), Int.ediv_le_self _ h⟩

theorem w_MendOften (x : Wd) (A : Option Addr) (b o c : Nat) (sl : List Int) (A7 : Option Addr) (b7 o7 c7 : Nat) (lay : Int) (w : World) (hnl : NL w A7 b7 o7 sl) (hlm : sl.length ≤ maxLen) (hsl : ∀ v ∈ sl, I64 v) (hlay : I64 lay) (hm : x.log.length ≤ maxLen) (hcap : x.log.length ≤ c) (hr : RL w A b o x.log) : Ret Try.prog 34 [x.val A c, .slice A7 sl.length c7, .int .i64 lay] w (.bool true) := by
 refine enter Try.func34 rfl Try.ntmps34 rfl SF.top trivial ?_
 refine sR ?_
 refine WL.eff (E.box rfl rfl rfl) rfl (fun b1 => ?_)
 refine pA rfl rfl ?_
 refine nN ?_
 refine sR ?_
 refine pV (Y.loadAN wd_54 rfl (by repeat (first | exact List.Mem.head _ | apply List.Mem.tail)) (r := (x).cl A c) rfl) rfl ?_
 refine WL.eff (E.retW ((mendOf x (-1) true true true).1) [.int .i64 (mendOf x (-1) true true true).2.1, .int .i64 (mendOf x (-1) true true true).2.2] Try.call66 rfl (fun _ w s => w_mendAll x A b o c w hm hcap (hr.below s.low)) rfl) rfl (fun i => ?_)
 refine pM rfl rfl ?_
 refine pP (Y.extract rfl rfl) rfl ?_
 refine pP (Y.extract rfl rfl) rfl ?_
 refine pP (Y.extract rfl rfl) rfl ?_
 refine WL.eff (E.alloc Try.zeroValue54 rfl rfl) rfl (fun b2 => ?_)
 refine WL.eff (E.store Try.sizeOf54 rfl rfl rfl rfl rfl u0 rfl rfl) rfl (fun _ => ?_)
 refine pA rfl rfl ?_
 refine pA rfl rfl ?_
 refine nN ?_
 refine WC.seq ?_
 refine sR ?_
 refine pM rfl rfl ?_
 refine pP (Y.neq rfl rfl) rfl ?_
 refine pM rfl rfl ?_
 refine WL.split (t := 26) rfl (fun r h26 => ?_)
 cases r
 have hh26 : (mendOf x (-1) true true true).2.2 = 0 := by have h26 := h26; simpa using h26
 have h0 := (mend_ok hh26).1
 refine gT rfl ?_
 refine pV (Y.loadAN wd_54 rfl (by repeat (first | exact List.Mem.head _ | apply List.Mem.tail)) (r := (x).cl A c) rfl) rfl ?_
 refine gT rfl ?_
 refine WL.eff (E.call Try.call63 rfl (fun _ w s => w_worldError x A b o c w hm hcap (hr.below s.low)) rfl) rfl (fun _ => ?_)
 refine gT rfl ?_
 refine pP (Y.neq rfl rfl) rfl ?_
 refine pP (Y.pickF rfl rfl) rfl ?_
 refine nN ?_
 refine WC.isF rfl (by rw [h0]; rfl) ?_
 refine WC.skip' ?_
 refine WQ.next ?_
 refine WC.seq ?_
 refine rl_start hr (fun w h y hy => ?_) ?_
 · rcases hy with hy | hy
   · exact (h.1.lt y hy).1
   · cases hy
 refine WC.region ?_
 refine pV (Y.loadAN wd_54 rfl (by repeat (first | exact List.Mem.head _ | apply List.Mem.tail)) (r := x.cl A c) rfl) rfl ?_
 refine WL.eff (E.alloc Try.zeroValue54 rfl rfl) rfl (fun b3 => ?_)
 refine WL.eff (E.store Try.sizeOf54 rfl rfl rfl rfl rfl u0 rfl rfl) rfl (fun _ => ?_)
 refine nN ?_
 refine WC.seq ?_
 refine sR ?_
 refine pA rfl rfl ?_
 refine nN ?_
 refine WC.block ?_
 refine WC.loop (ι := Nat × Wd × Option Addr × Nat × Nat × Nat) (fun k => [(1, .slice A7 sl.length c7), (2, .int .i64 lay), (3, .pointer (some ⟨b1, 0, none⟩)), (7, .pointer (some ⟨b2, 0, none⟩)), (10, .pointer (some ⟨b3, 0, none⟩)), (11, .int .i64 k.1)]) (fun k => [(b3, k.2.1.cl k.2.2.1 k.2.2.2.2.2, 54), (b2, (mendOf x (-1) true true true).1.cl i.1 i.2, 54), (b1, x.cl A c, 54)]) (fun k => (SF.rl k.2.2.1 k.2.2.2.1 k.2.2.2.2.1 k.2.1.log).sep ((SF.own w.heap.size 34 8 (.slice i.1 (mendOf x (-1) true true true).1.log.length i.2) (mendOf x (-1) true true true).1.log.length (flat (mendOf x (-1) true true true).1.log)).sep SF.top)) (fun k => (mendOf k.2.1 (-1) true true true).1 = (mendOf x (-1) true true true).1 ∧ (mendOf k.2.1 (-1) true true true).2.2 = 0 ∧ k.2.1.log.length ≤ maxLen ∧ k.2.1.log.length ≤ k.2.2.2.2.2 ∧ k.1 ≤ 12) (fun k => 12 - k.1) (0, x, A, b, o, c) ⟨rfl, hh26, hm, hcap, Nat.zero_le _⟩ (fun a w s => s.weak (by repeat (first | exact sub_nil _ | refine sub_cons rfl ?_))) (fun k hk => ?_)
 obtain ⟨m, x1, A1, p1, o1, c1⟩ := k
 obtain ⟨hy1, hy2, hm1, hc1, hk12⟩ := hk
 dsimp only at hy1 hy2 hm1 hc1 hk12 ⊢
 refine WC.seq ?_
 refine sR ?_
 refine pM rfl rfl ?_
 refine pM rfl rfl ?_
 refine pP (Y.len Try.underlying64 rfl) rfl ?_
 refine pP (Y.lss rfl rfl) rfl ?_
 refine pM rfl rfl ?_
 refine WL.split (t := 41) rfl (fun r h41 => ?_)
 cases r
 refine gF rfl ?_
 refine gF rfl ?_
 refine pP (Y.pickF rfl rfl) rfl ?_
 refine nN ?_
 refine WC.condF rfl ?_
 refine WC.exit ?_
 refine WQ.thenExit ?_
 refine WQ.thenExit ?_
 refine WQ.blockExit ?_
 refine WQ.next ?_
 refine sR ?_
 refine pV (Y.loadAN wd_54 rfl m0 (r := x1.cl A1 c1) rfl) rfl ?_
 refine WL.eff (E.retW ((mendOf x (-1) true true true).1) [.int .i64 (mendOf x1 (-1) true true true).2.1, .int .i64 0] Try.call66 rfl (fun _ w s => (by have hh := w_mendAll x1 A1 p1 o1 c1 w hm1 hc1 s.fact.1; rw [hy1, hy2] at hh; exact hh)) rfl) rfl (fun q => ?_)
 refine pM rfl rfl ?_
 refine pP (Y.extract rfl rfl) rfl ?_
 refine pP (Y.extract rfl rfl) rfl ?_
 refine pP (Y.extract rfl rfl) rfl ?_
 refine WL.eff (E.alloc Try.zeroValue54 rfl rfl) rfl (fun b4 => ?_)
 refine WL.eff (E.store Try.sizeOf54 rfl rfl rfl rfl rfl u0 rfl rfl) rfl (fun _ => ?_)
 refine pA rfl rfl ?_
 refine pA rfl rfl ?_
 refine nN ?_
 refine sR ?_
 refine WL.eff (E.call Try.call102 rfl (fun _ w s => w_mendBegun w) rfl) rfl (fun _ => ?_)
 refine pM rfl rfl ?_
 refine gT rfl ?_
 refine pM rfl rfl ?_
 refine gT rfl ?_
 refine pP (Y.eql rfl rfl) rfl ?_
 refine pP (Y.pickT rfl rfl) rfl ?_
 refine pM rfl rfl ?_
 refine WL.known (t := 87) (r := true) rfl (rfl) ?_
 refine gT rfl ?_
 refine pV (Y.loadAN wd_54 rfl (by repeat (first | exact List.Mem.head _ | apply List.Mem.tail)) (r := ((mendOf x (-1) true true true).1).cl q.1 q.2) rfl) rfl ?_
 refine gT rfl ?_
 refine pV (Y.loadAN wd_54 rfl (by repeat (first | exact List.Mem.head _ | apply List.Mem.tail)) (r := ((mendOf x (-1) true true true).1).cl i.1 i.2) rfl) rfl ?_
 refine gT rfl ?_
 refine WL.eff (E.call Try.call83 rfl (fun _ w s => w_sameWorlds (mendOf x (-1) true true true).1 (mendOf x (-1) true true true).1 q.1 i.1 (gOf q.1) 0 q.2 (gOf i.1) 0 i.2 w (own_max s.fact.1) (own_RL s.fact.1) (own_RL s.fact.2.1.2.1.1)) rfl) rfl (fun _ => ?_)
 refine pP (Y.pickT rfl rfl) rfl ?_
 refine pA rfl rfl ?_
 refine nN ?_
 refine WC.ret ?_
 refine dn1 Try.results34 rfl (fun a w s => ?_)
 · refine ⟨?_, s.low⟩
   clear s
   first
     | rfl
     | (have h26 := h26; first | (simp [packed]; done) | simpa [packed] using h26)
     | simp [packed]
 refine gT rfl ?_
 refine pM rfl rfl ?_
 refine gT rfl ?_
 refine pP (Y.lss rfl rfl) rfl ?_
 refine pP (Y.pickT rfl rfl) rfl ?_
 refine nN ?_
 refine WC.cond rfl (fun h44 => ?_) (fun h44 => ?_)
 refine WC.skip' ?_
 refine WQ.next ?_
 refine WC.seq ?_
 refine WC.block ?_
 refine WC.seq ?_
 have hlen0 : m < sl.length ∧ m < 12 := by
   have h41 := h41
   have h44 := h44
   simp at h41 h44
   omega
 have hch := choose_bnd (c := lay) (n := 8) (by omega)
 obtain ⟨v, hv⟩ := get_of_lt (l := sl) (k := m) hlen0.1
 have hvI := hsl v (List.mem_of_getElem? hv)
 have hcv := choose_bnd (c := v) (n := 4) (by omega)
 have hN0 : 0 ≤ (chooseI lay 8 + (m : Int)) ∧ (chooseI lay 8 + (m : Int)) ≤ 20 := by omega
 have hq2 := tdiv_bnd hN0.1 2 (by omega)
 have hq4 := tdiv_bnd hN0.1 4 (by omega)
 have hAx := hnl.addr hv
 have hz1 : (halfOf x1 (chooseI v 4) [((chooseI lay 8 + (m : Int)).tmod 2 == 0), (((chooseI lay 8 + (m : Int)).tdiv 2).tmod 2 == 0), (((chooseI lay 8 + (m : Int)).tdiv 4).tmod 2 == 0)]).2 = 0 := by rw [half_is (mend_ok hy2).1 (by omega)]; exact mend_some (by omega) hy2
 obtain ⟨hz2, hz3, hz4, _⟩ := once_ok hz1 hy2
 refine WC.region ?_
 refine pM rfl rfl ?_
 refine WL.eff (E.call Try.call60 rfl (fun _ w s => w_choose lay 8 w hlay (by omega)) rfl) rfl (fun _ => ?_)
 refine pM rfl rfl ?_
 refine pP (Y.add rfl rfl (i64_in (by omega) (by omega))) rfl ?_
 refine pA rfl rfl ?_
 refine nN ?_
 refine WC.cut (ι := (Option Addr × Nat) × Nat × Nat) (fun k => [(1, .slice A7 sl.length c7), (2, .int .i64 lay), (3, .pointer (some ⟨b1, 0, none⟩)), (7, .pointer (some ⟨b2, 0, none⟩)), (10, .pointer (some ⟨b3, 0, none⟩)), (11, .int .i64 (m : Nat)), (13, .pointer (some ⟨k.2.1, 0, none⟩)), (14, .int .i64 0)]) (fun k => [(k.2.1, (halfOf x1 (chooseI v 4) [((chooseI lay 8 + (m : Int)).tmod 2 == 0), (((chooseI lay 8 + (m : Int)).tdiv 2).tmod 2 == 0), (((chooseI lay 8 + (m : Int)).tdiv 4).tmod 2 == 0)]).1.cl k.1.1 k.1.2, 54), (b3, x1.cl A1 c1, 54), (b2, (mendOf x (-1) true true true).1.cl i.1 i.2, 54), (b1, x.cl A c, 54)]) (fun k => (SF.own w.heap.size 34 8 (.slice k.1.1 (halfOf x1 (chooseI v 4) [((chooseI lay 8 + (m : Int)).tmod 2 == 0), (((chooseI lay 8 + (m : Int)).tdiv 2).tmod 2 == 0), (((chooseI lay 8 + (m : Int)).tdiv 4).tmod 2 == 0)]).1.log.length k.1.2) (halfOf x1 (chooseI v 4) [((chooseI lay 8 + (m : Int)).tmod 2 == 0), (((chooseI lay 8 + (m : Int)).tdiv 2).tmod 2 == 0), (((chooseI lay 8 + (m : Int)).tdiv 4).tmod 2 == 0)]).1.log.length (flat (halfOf x1 (chooseI v 4) [((chooseI lay 8 + (m : Int)).tmod 2 == 0), (((chooseI lay 8 + (m : Int)).tdiv 2).tmod 2 == 0), (((chooseI lay 8 + (m : Int)).tdiv 4).tmod 2 == 0)]).1.log)).sep ((SF.rl A1 p1 o1 x1.log).sep ((SF.own w.heap.size 34 8 (.slice i.1 (mendOf x (-1) true true true).1.log.length i.2) (mendOf x (-1) true true true).1.log.length (flat (mendOf x (-1) true true true).1.log)).sep SF.top))) ?_ ?_
 refine WC.draw2 [(0, .q true), (1, .q false), (2, .q false), (3, .q false), (4, .q true), (5, .q true), (6, .q false), (7, .q false), (8, .q false), (9, .q false), (10, .q false), (11, .q false), (12, .q false), (13, .q false), (14, .q false), (15, .q false), (16, .q false), (17, .s false), (18, .s false), (19, .q false), (20, .q false), (21, .q false), (22, .s false), (23, .s true), (24, .q false)] mixed ?_
 refine AD.quiet (i := 0) (imp := true) rfl (by kernel_rfl) (QS.val (Y.loadAN wd_54 rfl (by repeat (first | exact List.Mem.head _ | apply List.Mem.tail)) (r := x1.cl A1 c1) rfl) rfl rfl) rfl rfl rfl ?_
 refine AD.quiet (i := 1) (imp := false) rfl (by kernel_rfl) (QS.pure (Y.move rfl) rfl rfl) rfl rfl rfl ?_
 refine AD.quiet (i := 2) (imp := false) rfl (by kernel_rfl) (QS.pure (Y.move rfl) rfl rfl) rfl rfl rfl ?_
 refine AD.quiet (i := 3) (imp := false) rfl (by kernel_rfl) (QS.pure (Y.ixSlA (A := A7) (b := b7) (o := o7) Try.underlying64 Try.sizeOf3 rfl rfl hAx (nat0 _) (get_ltI hv)) rfl rfl) rfl rfl rfl ?_
 refine AD.quiet (i := 4) (imp := true) rfl (by kernel_rfl) (QS.val (Y.loadc fl_3 rfl (v := .int .i64 v) (fun a w s => by have := (hnl.below s.low).cell m v hv 0 _ rfl; simpa using this)) rfl rfl) rfl rfl rfl ?_
 refine AD.quiet (i := 5) (imp := true) rfl (by kernel_rfl) (QS.call Try.call60 rfl (fun _ w s => w_choose v 4 w hvI (by omega))) rfl rfl rfl ?_
 refine AD.quiet (i := 6) (imp := false) rfl (by kernel_rfl) (QS.pure (Y.move rfl) rfl rfl) rfl rfl rfl ?_
 refine AD.quiet (i := 7) (imp := false) rfl (by kernel_rfl) (QS.pure (Y.rem rfl rfl (by decide) rfl) rfl rfl) rfl rfl rfl ?_
 refine AD.quiet (i := 8) (imp := false) rfl (by kernel_rfl) (QS.pure (Y.eql rfl rfl) rfl rfl) rfl rfl rfl ?_
 refine AD.quiet (i := 9) (imp := false) rfl (by kernel_rfl) (QS.pure (Y.move rfl) rfl rfl) rfl rfl rfl ?_
 refine AD.quiet (i := 10) (imp := false) rfl (by kernel_rfl) (QS.pure (Y.quo rfl rfl (by decide) (i64_in (by omega) (by omega))) rfl rfl) rfl rfl rfl ?_
 refine AD.quiet (i := 11) (imp := false) rfl (by kernel_rfl) (QS.pure (Y.rem rfl rfl (by decide) rfl) rfl rfl) rfl rfl rfl ?_
 refine AD.quiet (i := 12) (imp := false) rfl (by kernel_rfl) (QS.pure (Y.eql rfl rfl) rfl rfl) rfl rfl rfl ?_
 refine AD.quiet (i := 13) (imp := false) rfl (by kernel_rfl) (QS.pure (Y.move rfl) rfl rfl) rfl rfl rfl ?_
 refine AD.quiet (i := 14) (imp := false) rfl (by kernel_rfl) (QS.pure (Y.quo rfl rfl (by decide) (i64_in (by omega) (by omega))) rfl rfl) rfl rfl rfl ?_
 refine AD.quiet (i := 15) (imp := false) rfl (by kernel_rfl) (QS.pure (Y.rem rfl rfl (by decide) rfl) rfl rfl) rfl rfl rfl ?_
 refine AD.quiet (i := 16) (imp := false) rfl (by kernel_rfl) (QS.pure (Y.eql rfl rfl) rfl rfl) rfl rfl rfl ?_
 refine AD.two (i := 17) (j := 22) (by kernel_rfl) rfl rfl (WS.free rfl (E.buildSlice (bs_89_3 _ _ _) rfl rfl)) (fun _ => ext_new rfl) (WS.free rfl (E.alloc Try.zeroValue54 rfl rfl)) (fun _ => ext_new rfl) (fun b5 => ?_) (fun b5 => ?_)
 refine AD.two (i := 18) (j := 22) (by kernel_rfl) rfl rfl (WS.free rfl (E.retW ((halfOf x1 (chooseI v 4) [((chooseI lay 8 + (m : Int)).tmod 2 == 0), (((chooseI lay 8 + (m : Int)).tdiv 2).tmod 2 == 0), (((chooseI lay 8 + (m : Int)).tdiv 4).tmod 2 == 0)]).1) [.int .i64 (halfOf x1 (chooseI v 4) [((chooseI lay 8 + (m : Int)).tmod 2 == 0), (((chooseI lay 8 + (m : Int)).tdiv 2).tmod 2 == 0), (((chooseI lay 8 + (m : Int)).tdiv 4).tmod 2 == 0)]).2] Try.call103 rfl (fun _ w s => w_mendHalf x1 A1 p1 o1 c1 (chooseI v 4) [((chooseI lay 8 + (m : Int)).tmod 2 == 0), (((chooseI lay 8 + (m : Int)).tdiv 2).tmod 2 == 0), (((chooseI lay 8 + (m : Int)).tdiv 4).tmod 2 == 0)] (some ⟨b5, 0, none⟩) b5 0 3 w (BL.ofW [((chooseI lay 8 + (m : Int)).tmod 2 == 0), (((chooseI lay 8 + (m : Int)).tdiv 2).tmod 2 == 0), (((chooseI lay 8 + (m : Int)).tdiv 4).tmod 2 == 0)] s.wp (by repeat (first | exact List.Mem.head _ | apply List.Mem.tail)) rfl) (show 3 ≤ maxLen by decide) hm1 hc1 s.fact.1) rfl)) (fun _ => ext_newN rfl) (WS.free rfl (E.alloc Try.zeroValue54 rfl rfl)) (fun _ => ext_new rfl) (fun z => ?_) (fun b6 => ?_)
 refine AD.list [(19, .q false), (20, .q false), (21, .q false), (22, .s false), (23, .s true), (24, .q false)] (by kernel_rfl) ?_
 refine dP (Y.move rfl) rfl rfl ?_
 refine dP (Y.extract rfl rfl) rfl rfl ?_
 refine dP (Y.extract rfl rfl) rfl rfl ?_
 refine WDm.spec (WS.free rfl (E.alloc Try.zeroValue54 rfl rfl)) (fun _ => ext_new rfl) (fun b6 => ?_)
 refine WDm.spec (WS.free rfl (E.store Try.sizeOf54 rfl rfl rfl rfl rfl u0 rfl rfl)) (fun _ => sub_refl _) (fun _ => ?_)
 refine dP (Y.assign rfl) rfl rfl ?_
 refine WDm.nil (WQ.and ?_)
 · rw [hz1]
   exact fun a w s => ⟨rfl, (z, b6, 0), (s.sub ⟨_, List.Perm.refl _, List.Sublist.cons_cons _ (List.Sublist.cons _ (List.Sublist.refl _))⟩).weak (by repeat (first | exact sub_nil _ | refine sub_cons rfl ?_))⟩
 refine AD.list [(18, .s false), (19, .q false), (20, .q false), (21, .q false), (23, .s true), (24, .q false)] (by kernel_rfl) ?_
 refine WDm.spec (WS.free rfl (E.retW ((halfOf x1 (chooseI v 4) [((chooseI lay 8 + (m : Int)).tmod 2 == 0), (((chooseI lay 8 + (m : Int)).tdiv 2).tmod 2 == 0), (((chooseI lay 8 + (m : Int)).tdiv 4).tmod 2 == 0)]).1) [.int .i64 (halfOf x1 (chooseI v 4) [((chooseI lay 8 + (m : Int)).tmod 2 == 0), (((chooseI lay 8 + (m : Int)).tdiv 2).tmod 2 == 0), (((chooseI lay 8 + (m : Int)).tdiv 4).tmod 2 == 0)]).2] Try.call103 rfl (fun _ w s => w_mendHalf x1 A1 p1 o1 c1 (chooseI v 4) [((chooseI lay 8 + (m : Int)).tmod 2 == 0), (((chooseI lay 8 + (m : Int)).tdiv 2).tmod 2 == 0), (((chooseI lay 8 + (m : Int)).tdiv 4).tmod 2 == 0)] (some ⟨b5, 0, none⟩) b5 0 3 w (BL.ofW [((chooseI lay 8 + (m : Int)).tmod 2 == 0), (((chooseI lay 8 + (m : Int)).tdiv 2).tmod 2 == 0), (((chooseI lay 8 + (m : Int)).tdiv 4).tmod 2 == 0)] s.wp (by repeat (first | exact List.Mem.head _ | apply List.Mem.tail)) rfl) (show 3 ≤ maxLen by decide) hm1 hc1 s.fact.1) rfl)) (fun _ => ext_newN rfl) (fun z => ?_)
 refine dP (Y.move rfl) rfl rfl ?_
 refine dP (Y.extract rfl rfl) rfl rfl ?_
 refine dP (Y.extract rfl rfl) rfl rfl ?_
 refine WDm.spec (WS.free rfl (E.store Try.sizeOf54 rfl rfl rfl rfl rfl u0 rfl rfl)) (fun _ => sub_refl _) (fun _ => ?_)
 refine dP (Y.assign rfl) rfl rfl ?_
 refine WDm.nil (WQ.and ?_)
 · rw [hz1]
   exact fun a w s => ⟨rfl, (z, b6, 0), (s.sub ⟨_, List.Perm.refl _, List.Sublist.cons_cons _ (List.Sublist.cons _ (List.Sublist.refl _))⟩).weak (by repeat (first | exact sub_nil _ | refine sub_cons rfl ?_))⟩
 refine AD.list [(17, .s false), (18, .s false), (19, .q false), (20, .q false), (21, .q false), (23, .s true), (24, .q false)] (by kernel_rfl) ?_
 refine WDm.spec (WS.free rfl (E.buildSlice (bs_89_3 _ _ _) rfl rfl)) (fun _ => ext_new rfl) (fun b6 => ?_)
 refine WDm.spec (WS.free rfl (E.retW ((halfOf x1 (chooseI v 4) [((chooseI lay 8 + (m : Int)).tmod 2 == 0), (((chooseI lay 8 + (m : Int)).tdiv 2).tmod 2 == 0), (((chooseI lay 8 + (m : Int)).tdiv 4).tmod 2 == 0)]).1) [.int .i64 (halfOf x1 (chooseI v 4) [((chooseI lay 8 + (m : Int)).tmod 2 == 0), (((chooseI lay 8 + (m : Int)).tdiv 2).tmod 2 == 0), (((chooseI lay 8 + (m : Int)).tdiv 4).tmod 2 == 0)]).2] Try.call103 rfl (fun _ w s => w_mendHalf x1 A1 p1 o1 c1 (chooseI v 4) [((chooseI lay 8 + (m : Int)).tmod 2 == 0), (((chooseI lay 8 + (m : Int)).tdiv 2).tmod 2 == 0), (((chooseI lay 8 + (m : Int)).tdiv 4).tmod 2 == 0)] (some ⟨b6, 0, none⟩) b6 0 3 w (BL.ofW [((chooseI lay 8 + (m : Int)).tmod 2 == 0), (((chooseI lay 8 + (m : Int)).tdiv 2).tmod 2 == 0), (((chooseI lay 8 + (m : Int)).tdiv 4).tmod 2 == 0)] s.wp (by repeat (first | exact List.Mem.head _ | apply List.Mem.tail)) rfl) (show 3 ≤ maxLen by decide) hm1 hc1 s.fact.1) rfl)) (fun _ => ext_newN rfl) (fun z => ?_)
 refine dP (Y.move rfl) rfl rfl ?_
 refine dP (Y.extract rfl rfl) rfl rfl ?_
 refine dP (Y.extract rfl rfl) rfl rfl ?_
 refine WDm.spec (WS.free rfl (E.store Try.sizeOf54 rfl rfl rfl rfl rfl u1 rfl rfl)) (fun _ => sub_refl _) (fun _ => ?_)
 refine dP (Y.assign rfl) rfl rfl ?_
 refine WDm.nil (WQ.and ?_)
 · rw [hz1]
   exact fun a w s => ⟨rfl, (z, b5, 0), (s.sub ⟨_, List.Perm.refl _, List.Sublist.cons _ (List.Sublist.refl _)⟩).weak (by repeat (first | exact sub_nil _ | refine sub_cons rfl ?_))⟩
 rintro ⟨z, b4, b9⟩
 dsimp only
 refine WC.seq ?_
 refine sR ?_
 refine pM rfl rfl ?_
 refine pP (Y.neq rfl rfl) rfl ?_
 refine nN ?_
 refine WC.isF rfl (rfl) ?_
 refine WC.skip' ?_
 refine WQ.next ?_
 refine WC.know (p := (halfOf x1 (chooseI v 4) [((chooseI lay 8 + (m : Int)).tmod 2 == 0), (((chooseI lay 8 + (m : Int)).tdiv 2).tmod 2 == 0), (((chooseI lay 8 + (m : Int)).tdiv 4).tmod 2 == 0)]).1.log.length ≤ maxLen ∧ (halfOf x1 (chooseI v 4) [((chooseI lay 8 + (m : Int)).tmod 2 == 0), (((chooseI lay 8 + (m : Int)).tdiv 2).tmod 2 == 0), (((chooseI lay 8 + (m : Int)).tdiv 4).tmod 2 == 0)]).1.log.length ≤ z.2) (fun a w s => ⟨own_max s.fact.1, own_le s.fact.1⟩) (fun hz9 => ?_)
 obtain ⟨hzm, hzc⟩ := hz9
 refine WC.region ?_
 refine pV (Y.loadAN wd_54 rfl m0 (r := (halfOf x1 (chooseI v 4) [((chooseI lay 8 + (m : Int)).tmod 2 == 0), (((chooseI lay 8 + (m : Int)).tdiv 2).tmod 2 == 0), (((chooseI lay 8 + (m : Int)).tdiv 4).tmod 2 == 0)]).1.cl z.1 z.2) rfl) rfl ?_
 refine WL.eff (E.store Try.sizeOf54 rfl rfl rfl rfl rfl u1 rfl rfl) rfl (fun _ => ?_)
 refine WL.nil ?_
 refine WQ.blockEnd ?_
 refine WQ.next ?_
 refine WC.region ?_
 refine pM rfl rfl ?_
 refine pP (Y.add rfl rfl (i64_in (by omega) (by omega))) rfl ?_
 refine pA rfl rfl ?_
 refine WL.nil ?_
 · refine WQ.le (SF.le_trans (SF.sep_mono (rl_of_own _ _ _ _) (SF.sep_snd _ _)) (SF.le_refl _)) ?_
   refine fun a w s => ⟨(m + 1, (halfOf x1 (chooseI v 4) [((chooseI lay 8 + (m : Int)).tmod 2 == 0), (((chooseI lay 8 + (m : Int)).tdiv 2).tmod 2 == 0), (((chooseI lay 8 + (m : Int)).tdiv 4).tmod 2 == 0)]).1, z.1, gOf z.1, 0, z.2), ⟨?_, ?_, hzm, hzc, by show m + 1 ≤ 12; omega⟩, by show 12 - (m + 1) < 12 - m; omega, ?_⟩
   · exact (hz3).trans hy1
   · exact hz4
   · exact (s.sub (Hsub.of_sub (List.sublist_cons_self _ _))).weak (by repeat (first | exact sub_nil _ | refine sub_cons rfl ?_))
 refine WC.exit ?_
 refine WQ.thenExit ?_
 refine WQ.thenExit ?_
 refine WQ.blockExit ?_
 refine WQ.next ?_
 refine sR ?_
 refine pV (Y.loadAN wd_54 rfl m0 (r := x1.cl A1 c1) rfl) rfl ?_
 refine WL.eff (E.retW ((mendOf x (-1) true true true).1) [.int .i64 (mendOf x1 (-1) true true true).2.1, .int .i64 0] Try.call66 rfl (fun _ w s => (by have hh := w_mendAll x1 A1 p1 o1 c1 w hm1 hc1 s.fact.1; rw [hy1, hy2] at hh; exact hh)) rfl) rfl (fun q => ?_)
 refine pM rfl rfl ?_
 refine pP (Y.extract rfl rfl) rfl ?_
 refine pP (Y.extract rfl rfl) rfl ?_
 refine pP (Y.extract rfl rfl) rfl ?_
 refine WL.eff (E.alloc Try.zeroValue54 rfl rfl) rfl (fun b5 => ?_)
 refine WL.eff (E.store Try.sizeOf54 rfl rfl rfl rfl rfl u0 rfl rfl) rfl (fun _ => ?_)
 refine pA rfl rfl ?_
 refine pA rfl rfl ?_
 refine nN ?_
 refine sR ?_
 refine WL.eff (E.call Try.call102 rfl (fun _ w s => w_mendBegun w) rfl) rfl (fun _ => ?_)
 refine pM rfl rfl ?_
 refine gT rfl ?_
 refine pM rfl rfl ?_
 refine gT rfl ?_
 refine pP (Y.eql rfl rfl) rfl ?_
 refine pP (Y.pickT rfl rfl) rfl ?_
 refine pM rfl rfl ?_
 refine WL.known (t := 87) (r := true) rfl (rfl) ?_
 refine gT rfl ?_
 refine pV (Y.loadAN wd_54 rfl (by repeat (first | exact List.Mem.head _ | apply List.Mem.tail)) (r := ((mendOf x (-1) true true true).1).cl q.1 q.2) rfl) rfl ?_
 refine gT rfl ?_
 refine pV (Y.loadAN wd_54 rfl (by repeat (first | exact List.Mem.head _ | apply List.Mem.tail)) (r := ((mendOf x (-1) true true true).1).cl i.1 i.2) rfl) rfl ?_
 refine gT rfl ?_
 refine WL.eff (E.call Try.call83 rfl (fun _ w s => w_sameWorlds (mendOf x (-1) true true true).1 (mendOf x (-1) true true true).1 q.1 i.1 (gOf q.1) 0 q.2 (gOf i.1) 0 i.2 w (own_max s.fact.1) (own_RL s.fact.1) (own_RL s.fact.2.1.2.1.1)) rfl) rfl (fun _ => ?_)
 refine pP (Y.pickT rfl rfl) rfl ?_
 refine pA rfl rfl ?_
 refine nN ?_
 refine WC.ret ?_
 refine dn1 Try.results34 rfl (fun a w s => ?_)
 · refine ⟨?_, s.low⟩
   clear s
   first
     | rfl
     | (have h26 := h26; first | (simp [packed]; done) | simpa [packed] using h26)
     | simp [packed]
 refine gF rfl ?_
 refine gF rfl ?_
 refine gF rfl ?_
 refine pP (Y.pickT rfl rfl) rfl ?_
 refine nN ?_
 refine WC.condT rfl ?_
 refine sR ?_
 refine WL.eff (E.call Try.call102 rfl (fun _ w s => w_mendBegun w) rfl) rfl (fun _ => ?_)
 refine pM rfl rfl ?_
 refine gT rfl ?_
 refine pM rfl rfl ?_
 refine gT rfl ?_
 refine pP (Y.neq rfl rfl) rfl ?_
 refine pP (Y.pickT rfl rfl) rfl ?_
 refine pA rfl rfl ?_
 refine nN ?_
 refine WC.ret ?_
 refine WQ.thenRet ?_
 refine dn1 Try.results34 rfl (fun a w s => ?_)
 · refine ⟨?_, s.low⟩
   clear s
   first
     | rfl
     | (have h26 := h26; first | (simp [packed]; done) | simpa [packed] using h26)
     | simp [packed]
end Go.Proofs.Ytdbcimadjmdffaa
