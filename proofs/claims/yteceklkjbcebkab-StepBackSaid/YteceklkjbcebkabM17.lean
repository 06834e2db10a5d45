/- Walks and plain laws, part 17. No condition. -/
import Derived.Test.YteceklkjbcebkabM2
import Derived.Test.YteceklkjbcebkabM16
/- What carrying a derivation over, and back, tells: in plain terms. No condition. -/
namespace Go.Sy
open Go Go.RowKit Go.Proofs

theorem ps_der {g : Gram} {l : List Sym} {d : List Int} {r : Option (For × List Int)} (h : PS g l d r) : ∀ f d2, r = some (f, d2) → ∃ y, Der g l f y := by
 induction h with
 | nil => intro f d2 h; cases h; exact ⟨_, .nil⟩
 | term ht _ ih => intro f d2 h; obtain ⟨y, hy⟩ := ih f d2 h; exact ⟨_, .term ht hy⟩
 | bad _ _ => intro f d2 h; cases h
 | deep _ _ _ _ _ _ => intro f d2 h; cases h
 | late _ _ _ _ _ _ _ _ => intro f d2 h; cases h
 | ok ht h0 hq hl _ _ ih1 ih2 =>
   intro f d2 h
   cases h
   obtain ⟨y1, h1⟩ := ih1 _ _ rfl
   obtain ⟨y2, h2⟩ := ih2 _ _ rfl
   exact ⟨_, .name ht h0 hq hl h1 h2⟩
theorem der_ps {g : Gram} {l : List Sym} {f : For} {y : List Int} (h : Der g l f y) : ∀ d2, PS g l (f.flat ++ d2) (some (f, d2)) := by
 induction h with
 | nil => exact fun d2 => .nil
 | term ht _ ih => exact fun d2 => .term ht (ih d2)
 | @name s l x q ks fs y1 y2 ht h0 hq hl _ _ ih1 ih2 =>
   intro d2
   have e : (For.cons x ks fs).flat ++ d2 = x :: (ks.flat ++ (fs.flat ++ d2)) := by simp [For.flat]
   rw [e]
   exact .ok ht h0 hq hl (ih1 _) (ih2 d2)
theorem ps_det {g : Gram} {l : List Sym} {d : List Int} {r : Option (For × List Int)} (h : PS g l d r) : ∀ r', PS g l d r' → r = r' := by
 induction h with
 | nil => intro r' h'; cases h'; rfl
 | term ht _ ih =>
   intro r' h'
   cases h' with
   | term _ h2 => exact ih _ h2
   | bad h2 _ => rw [ht] at h2; cases h2
   | deep h2 => rw [ht] at h2; cases h2
   | late h2 => rw [ht] at h2; cases h2
   | ok h2 => rw [ht] at h2; cases h2
 | bad ht hb =>
   intro r' h'
   cases h' with
   | term h2 _ => rw [ht] at h2; cases h2
   | bad _ _ => rfl
   | deep _ _ _ _ _ => rfl
   | late _ _ _ _ _ _ => rfl
   | ok _ h0 hq hl _ _ => exact absurd hl (hb _ _ _ rfl h0 hq)
 | deep ht h0 hq hl _ ih =>
   intro r' h'
   cases h' with
   | term h2 _ => rw [ht] at h2; cases h2
   | bad _ _ => rfl
   | deep _ _ _ _ _ => rfl
   | late _ _ _ _ _ _ => rfl
   | ok _ h0' hq' hl' h3 _ =>
     rw [hq] at hq'; cases hq'
     cases ih _ h3
 | late ht h0 hq hl _ _ ih1 ih2 =>
   intro r' h'
   cases h' with
   | term h2 _ => rw [ht] at h2; cases h2
   | bad _ _ => rfl
   | deep _ _ _ _ _ => rfl
   | late _ _ _ _ _ _ => rfl
   | ok _ h0' hq' hl' h3 h4 =>
     rw [hq] at hq'; cases hq'
     cases ih1 _ h3
     cases ih2 _ h4
 | ok ht h0 hq hl _ _ ih1 ih2 =>
   intro r' h'
   cases h' with
   | term h2 _ => rw [ht] at h2; cases h2
   | bad _ hb => exact absurd hl (hb _ _ _ rfl h0 hq)
   | deep _ _ hq' _ h3 =>
     rw [hq] at hq'; cases hq'
     cases ih1 _ h3
   | late _ _ hq' _ h3 h4 =>
     rw [hq] at hq'; cases hq'
     cases ih1 _ h3
     cases ih2 _ h4
   | ok _ _ hq' _ h3 h4 =>
     rw [hq] at hq'; cases hq'
     cases ih1 _ h3
     cases ih2 _ h4
     rfl
theorem ws_der {g : Gram} {l : List Sym} {f : For} {o o2 : List Int} {s s2 : List Spn} (h : WS g l f o s o2 s2) : ∀ y, Der g l f y → o2 = o ++ y := by
 induction h with
 | nil => intro y hy; cases hy; exact (List.append_nil _).symm
 | term ht _ ih =>
   intro y hy
   cases hy with
   | term _ h2 => rw [ih _ h2]; simp
   | name h2 => rw [ht] at h2; cases h2
 | name ht h0 hq _ _ _ ih1 ih2 =>
   intro y hy
   cases hy with
   | term h2 => rw [ht] at h2; cases h2
   | name _ _ hq' hl' h3 h4 =>
     rw [hq] at hq'; cases hq'
     rw [ih2 _ h4, ih1 _ h3, List.append_assoc]
theorem thru_of_der {g : Gram} {f : For} {y d : List Int} {x : TR} (h : Der g top0 f y) (hf : f.flat = d) (hm : mayB g = true) (hd : d.length ≤ 400) (hx : ThruOk g d x) : x.ok = true ∧ x.out = y := by
 have hps : PS g top0 d (some (f, [])) := by have := der_ps h []; rwa [List.append_nil, hf] at this
 obtain ⟨o, s, hw⟩ := ps_ws hps
 have ht := ps_top_ok hps hw
 have ho : o = y := (ws_der hw _ h).trans (List.nil_append _)
 cases hk : x.ok with
 | true =>
   have e := thru_det ht _ (hx.1 hk).2.2
   injection e with e
   injection e with e1 e2
   exact ⟨rfl, e1.symm.trans ho⟩
 | false => cases thru_det ht _ (hx.2 hk hm hd)
theorem der_same {g : Gram} {f f' : For} {y y' : List Int} (h : Der g top0 f y) (h' : Der g top0 f' y') (e : f.flat = f'.flat) : f = f' := by
 have h1 := der_ps h []
 have h2 := der_ps h' []
 rw [e] at h1
 have := ps_det h1 _ h2
 injection this with this
 injection this

/-- A derivation of one grammar, carried over. -/
def CarF (gr : Gram) (F : For → For) (d l : List Int) (ok : Bool) : Prop :=
 ((d.length ≤ 400 → ∃ r, PS gr top0 d r ∧ ∀ f, r ≠ some (f, [])) ∧ ok = false ∧ l = []) ∨
 ∃ f y, Der gr top0 f y ∧ f.flat = d ∧ d.length ≤ 400 ∧ (((F f).size ≤ 400 ∧ ok = true ∧ l = (F f).flat) ∨ (400 < (F f).size ∧ ok = false ∧ l = []))
theorem carF_no {gr : Gram} {F : For → For} {d l : List Int} {ok : Bool} {x : TR} (hm : mayB gr = true) (h : CarF gr F d l ok) (hx : ThruOk gr d x) (hk : x.ok = false) : ok = false ∧ l = [] := by
 rcases h with ⟨_, h⟩ | ⟨f, y, h1, h2, h3, _⟩
 · exact h
 · rw [(thru_of_der h1 h2 hm h3 hx).1] at hk; cases hk
theorem carF_round {g h : Gram} {F B : For → For} (hg : mayB g = true) (hh : mayB h = true) (hc : Carries g h F B) {d l : List Int} {ok : Bool} {x : TR} (h1 : CarF g F d l ok) (hx : ThruOk g d x) (hk : x.ok = true) (hd : d.length ≤ 200) :
   ok = true ∧ (∀ y, ThruOk h l y → y.ok = true ∧ y.out = x.out) ∧ ∀ z b, CarF h B l z b → b = true ∧ z = d := by
 rcases h1 with ⟨h1, _⟩ | ⟨f, y, h1, h2, h3, h4⟩
 · obtain ⟨r, h5, h6⟩ := h1 (by omega)
   have h7 := (hx.1 hk).2.2
   cases thru_det h7 _ (ps_top_no h5 h6)
 · obtain ⟨c1, c2, c3⟩ := hc f y h1
   have hfs : f.size = d.length := by rw [← h2, flat_size]
   rcases h4 with ⟨h5, h6, h7⟩ | ⟨h5, _⟩
   · refine ⟨h6, fun u hu => ?_, fun z b hz => ?_⟩
     · have := thru_of_der c1 h7.symm hh (by rw [h7, flat_size]; exact h5) hu
       rw [this.2, (thru_of_der h1 h2 hg h3 hx).2]
       exact ⟨this.1, rfl⟩
     · rcases hz with ⟨h8, _⟩ | ⟨f2, y2, d2, e2, _, h8⟩
       · obtain ⟨r, h9, h10⟩ := h8 (by rw [h7, flat_size]; exact h5)
         have hps : PS h top0 l (some (F f, [])) := by have := der_ps c1 []; rwa [List.append_nil, ← h7] at this
         exact absurd (ps_det h9 _ hps) (h10 _)
       · have e : f2 = F f := der_same d2 c1 (e2.trans h7)
         rw [e, c2] at h8
         rcases h8 with ⟨_, h9, h10⟩ | ⟨h9, _⟩
         · exact ⟨h9, h10.trans h2⟩
         · omega
   · omega

/-- What is worked out for a step that leaves rules out; nothing else. -/
def Mk (g : Gram) (s : SStep) (ms cs : List Bool) : Prop := (s.op = 5 → MksOk g ms ∧ CmsOk g cs) ∧ (s.op ≠ 5 → ms = [] ∧ cs = [])
theorem mk_one {g : Gram} {s : SStep} {ms cs ms' cs' : List Bool} (h : Mk g s ms cs) (h' : Mk g s ms' cs') : ms = ms' ∧ cs = cs' := by
 by_cases e : s.op = 5
 · exact mks_unique (h.1 e) (h'.1 e)
 · obtain ⟨rfl, rfl⟩ := h.2 e
   obtain ⟨rfl, rfl⟩ := h'.2 e
   exact ⟨rfl, rfl⟩
theorem mk_of {g : Gram} {s : SStep} {ms cs : List Bool} (hs : mayS g s = true) (h : s.op = 5 → MksOk g ms ∧ CmsOk g cs) : ∃ ms' cs', Mk g s ms' cs' ∧ stepG g s ms cs = stepG g s ms' cs' := by
 by_cases e : s.op = 5
 · exact ⟨ms, cs, ⟨h, fun h' => absurd e h'⟩, rfl⟩
 · refine ⟨[], [], ⟨fun h' => absurd h' e, fun _ => ⟨rfl, rfl⟩⟩, ?_⟩
   unfold stepG
   rcases mayS_op hs with h | h | h | h | h
   · rw [if_pos h, if_pos h]
   · rw [if_neg (by omega), if_pos h, if_neg (by omega), if_pos h]
   · rw [if_neg (by omega), if_neg (by omega), if_pos h, if_neg (by omega), if_neg (by omega), if_pos h]
   · rw [if_neg (by omega), if_neg (by omega), if_neg (by omega), if_pos h, if_neg (by omega), if_neg (by omega), if_neg (by omega), if_pos h]
   · exact absurd h e
theorem car_mk {g : Gram} {s : SStep} {ls : List Nat} {ms cs ms' cs' : List Bool} (hc : CarOk g s ls ms cs) (h : Mk g s ms' cs') : CarOk g s ls ms' cs' := by
 refine ⟨hc.1, fun e => ?_⟩
 obtain ⟨h1, h2, h3⟩ := hc.2 e
 obtain ⟨rfl, rfl⟩ := mks_unique ⟨h1, h2⟩ (h.1 e)
 exact ⟨h1, h2, h3⟩
theorem do_ok {g h : Gram} {s : SStep} {e : Int} (hd : DoOk g s h e) (he : e = 0) : mayB g = true ∧ mayS g s = true ∧ ∃ ms cs, Mk g s ms cs ∧ mayB (stepG g s ms cs) = true ∧ h = stepG g s ms cs := by
 cases hb : mayB g && mayS g s with
 | false => have := (hd.1 hb).1; omega
 | true =>
   simp only [Bool.and_eq_true] at hb
   obtain ⟨ms, cs, h5, hy, hn⟩ := hd.2 hb.1 hb.2
   obtain ⟨ms', cs', hk, e1⟩ := mk_of hb.2 h5
   refine ⟨hb.1, hb.2, ms', cs', hk, ?_⟩
   cases hm : mayB (stepG g s ms cs) with
   | false => have := (hn hm).1; omega
   | true => exact ⟨by rw [← e1]; exact hm, by rw [← e1]; exact (hy hm).2⟩
theorem do8_of {g h : Gram} {s : SStep} {e : Int} {ms cs : List Bool} (hd : DoOk8 g s h e) (hm : mayB g = true) (hs : mayS g s = true) (hk : Mk g s ms cs) (hmh : mayB (stepG g s ms cs) = true) : e = 0 ∧ h = stepG g s ms cs := by
 have : DoOk g s (stepG g s ms cs) 0 := ⟨fun hb => by simp [hm, hs] at hb, fun _ _ => ⟨ms, cs, hk.1, fun _ => ⟨rfl, rfl⟩, fun hb => by rw [hmh] at hb; cases hb⟩⟩
 obtain ⟨e1, e2⟩ := do_same this hd
 exact ⟨e1.symm, e2.symm⟩
/-- What 'Forward' and 'Back' tell. -/
def CarryOk (g : Gram) (s : SStep) (d : List Int) (back : Bool) (l : List Int) (ok : Bool) : Prop :=
 (∃ h e, DoOk g s h e ∧ e ≠ 0 ∧ ok = false ∧ l = []) ∨ ∃ ms cs, mayB g = true ∧ mayS g s = true ∧ Mk g s ms cs ∧ mayB (stepG g s ms cs) = true ∧ CarF (bif back then stepG g s ms cs else g) (bif back then bkT g s ms cs else fwdT g s ms cs) d l ok
theorem carry_no {g h : Gram} {s : SStep} {e : Int} {d l : List Int} {back ok : Bool} (h8 : DoOk8 g s h e) (hc : CarryOk g s d back l ok) (he : e ≠ 0) : ok = false ∧ l = [] := by
 rcases hc with ⟨_, _, _, _, h3⟩ | ⟨ms, cs, hm, hs, hk, hmh, _⟩
 · exact h3
 · exact absurd (do8_of h8 hm hs hk hmh).1 he
theorem carry_yes {g h : Gram} {s : SStep} {e : Int} {d l : List Int} {back ok : Bool} (h8 : DoOk8 g s h e) (hc : CarryOk g s d back l ok) (he : e = 0) : ∃ ms cs, mayB g = true ∧ mayS g s = true ∧ Mk g s ms cs ∧ mayB h = true ∧ h = stepG g s ms cs ∧ CarF (bif back then h else g) (bif back then bkT g s ms cs else fwdT g s ms cs) d l ok := by
 rcases hc with ⟨h0, e0, h1, h2, _⟩ | ⟨ms, cs, hm, hs, hk, hmh, hf⟩
 · exact absurd ((do_same h1 h8).1.trans he) h2
 · obtain ⟨_, rfl⟩ := do8_of h8 hm hs hk hmh
   exact ⟨ms, cs, hm, hs, hk, hmh, rfl, hf⟩
theorem fwd_law {g h : Gram} {s : SStep} {e : Int} {d l : List Int} {ok : Bool} {x : TR} (h8 : DoOk8 g s h e) (hx : ThruOk g d x) (hc : CarryOk g s d false l ok) :
   ((e ≠ 0 ∨ x.ok = false) → ok = false ∧ l = []) ∧ (e = 0 → x.ok = true → d.length ≤ 200 → ok = true ∧ (∀ y, ThruOk h l y → y.ok = true ∧ y.out = x.out) ∧ ∀ z b, CarryOk g s l true z b → b = true ∧ z = d) := by
 refine ⟨fun h1 => ?_, fun he hk hd => ?_⟩
 · by_cases he : e = 0
   · obtain ⟨ms, cs, hm, hs, hmk, hmh, hh, hf⟩ := carry_yes h8 hc he
     rcases h1 with h1 | h1
     · exact absurd he h1
     · exact carF_no hm hf hx h1
   · exact carry_no h8 hc he
 · obtain ⟨ms, cs, hm, hs, hmk, hmh, hh, hf⟩ := carry_yes h8 hc he
   have hC := (carries (g := g) (s := s) (ms := ms) (cs := cs) hm hs fun h5 => car5 (hmk.1 h5)).1
   rw [← hh] at hC
   obtain ⟨r1, r2, r3⟩ := carF_round hm hmh hC hf hx hk hd
   refine ⟨r1, r2, fun z b hz => ?_⟩
   obtain ⟨ms2, cs2, _, _, hmk2, _, _, hf2⟩ := carry_yes h8 hz he
   obtain ⟨rfl, rfl⟩ := mk_one hmk hmk2
   exact r3 z b hf2
theorem back_law {g h : Gram} {s : SStep} {e : Int} {d l : List Int} {ok : Bool} (h8 : DoOk8 g s h e) (hc : CarryOk g s d true l ok) :
   (e ≠ 0 → ok = false ∧ l = []) ∧ (e = 0 → ∀ x, ThruOk h d x → (x.ok = false → ok = false ∧ l = []) ∧ (x.ok = true → d.length ≤ 200 → ok = true ∧ (∀ y, ThruOk g l y → y.ok = true ∧ y.out = x.out) ∧ ∀ z b, CarryOk g s l false z b → b = true ∧ z = d)) := by
 refine ⟨carry_no h8 hc, fun he x hx => ?_⟩
 obtain ⟨ms, cs, hm, hs, hmk, hmh, hh, hf⟩ := carry_yes h8 hc he
 refine ⟨fun hk => carF_no hmh hf hx hk, fun hk hd => ?_⟩
 have hC := (carries (g := g) (s := s) (ms := ms) (cs := cs) hm hs fun h5 => car5 (hmk.1 h5)).2
 rw [← hh] at hC
 obtain ⟨r1, r2, r3⟩ := carF_round hmh hm hC hf hx hk hd
 refine ⟨r1, r2, fun z b hz => ?_⟩
 obtain ⟨ms2, cs2, _, _, hmk2, _, _, hf2⟩ := carry_yes h8 hz he
 obtain ⟨rfl, rfl⟩ := mk_one hmk hmk2
 exact r3 z b hf2
end Go.Sy
/- A derivation carried over: Forward, and Back. No condition. -/
namespace Go.Sy
open Go Go.RowKit Go.Proofs

theorem Sat.kids {R : Nat → Prop} {w0 w : World} {L L' : List HP} {f : For} {bs : List Nat} (h : Sat R w0 L w) (s : Swap L (kidsA f bs) (kidsA f bs) L') : KidsAt (Cl w) f bs := by
 obtain ⟨y, hy, hown⟩ := h.own
 obtain ⟨h1, h2, _, he, hA, _⟩ := s.focus y hy
 have hk : KidsAt (Rd (fun _ => True) w) f bs := kids_at hA fun k o hk => ⟨trivial, (hown k o (by rw [he]; simp [uni, hk])).2⟩
 exact hk.mono fun _ _ hr => hr.2
theorem q_eqPtr [Inhabited (List Deferred)] {P : Program} {n : Nat} {K : Env} {dst : Option Nat} {T : TypeId} {pos : String} {af : Array Edge} {g : Option (Nat × Bool)} {C : World → Prop} {t e t' : TypeId} {x y : Operand} {p : Option Addr} (hu : P.underlying t = some (.pointer e)) (hx : ev K x = some (.pointer p)) (hy : ev K y = some (.pointer none)) : Qt P n K C ⟨dst, .binOp .eql t x y t', T, pos, af, g⟩ (.bool p.isNone) := fun a ha w _ => by
 have e1 : P.pointee t = e := by unfold Program.pointee; rw [hu]
 have hu' : P.underlying t = some (.pointer (P.pointee t)) := by rw [e1]; exact hu
 simp only [execOp, ha.ev hx, ha.ev hy]
 simp [eqGuard, run_eql_pointer_nil w t p hu']
theorem q_makeFuncM [Inhabited (List Deferred)] {P : Program} {n : Nat} {K : Env} {dst : Option Nat} {T : TypeId} {pos : String} {af : Array Edge} {g : Option (Nat × Bool)} {C : World → Prop} {f : FuncId} {x : Operand} {v : Value} (h : ev K x = some v) : Qt P n K C ⟨dst, .makeFunc (.func f) #[x] #[], T, pos, af, g⟩ (.func (.func f) #[v] #[]) :=
 q_makeFunc (vs := #[v]) (us := #[]) (by simp [h]) (by simp)
theorem Sat.gramIn3 {R : Nat → Prop} {w0 w : World} {L L' L2 : List HP} {v : Value} {rs : List RV} {h : Gram} (hp : plainR rs = h.rules) (hs : Sat R w0 L w) (s : Swap L (rulesA v rs) (rulesA v rs) L') (s2 : Swap L (symsA rs) (symsA rs) L2) : GramAt (Cl w) (.agg #[.int .i64 h.terms, .int .i64 h.names, v]) h := by
 have := hs.gramIn (t := h.terms) (n := h.names) s s2
 rw [hp] at this
 exact this
set_option maxRecDepth 20000 in
theorem carryF_any (gv dv : Value) (g : Gram) (s : SStep) (d : List Int) (w : World) (hg : GramAt (Cl w) gv g) (hd : IntsAt (Cl w) dv d) : Calls Try.prog 26 #[gv, stepV s, dv, .bool false] w (fun e w' => ∃ x : Value × List Int × Bool, e = .returned (.tuple #[x.1, .bool x.2.2]) ∧ CarryOk g s d false x.2.1 x.2.2 ∧ Sat (Old w) w [trow 3 1 encN x.1 x.2.1] w') := by
 have hd0 := hd
 have hg0 := hg
 obtain ⟨rv, rfl, hr⟩ := hg.mono old_rd
 obtain ⟨a, c, rfl, hc1, hc2, hrs⟩ := id hr
 clear hg
 obtain ⟨da, dc, rfl, hd1, hd2, hds⟩ := hd.mono old_rd
 clear hd
 refine calls_CW Try.func26 rfl Try.ntmps26 rfl (Sat.start w) ?_
 refine nx3 ?_
 refine OW_e (e_box rfl rfl) rfl (fun b4 => ?_)
 refine OW_e (e_box rfl rfl) rfl (fun b5 => ?_)
 refine aO ?_
 refine aO ?_
 refine nx4 ?_
 refine OW_q (q_loadN_own Try.isAgg24 Try.sizeOf24 rfl rfl swt (by rfl)) rfl ?_
 refine OW_q (q_loadN_own Try.isAgg26 Try.sizeOf26 rfl rfl swt (by rfl)) rfl ?_
 refine OW_e (e_call Try.call8 rfl (fun w hw => lift_oldP (do_any _ g s w (hg0.mono (fun _ _ h => hw.rd (Rd.old h)))) hw)) rfl (fun x20 => ?_)
 refine OW_pure fun hx20 => ?_
 obtain ⟨vx, gx, rsx, ex⟩ := x20
 obtain ⟨hd_x, hp_x⟩ := hx20
 have hpx : plainR rsx = gx.rules := hp_x
 have hdx : DoOk _ _ gx ex := hd_x
 refine OW_fact (fun w hw => hw.tform (v := vx) (l := rsx) (enc := encRV) swt) (fun hf => ?_)
 obtain ⟨ax, cx, rfl, _, _, hbx⟩ := hf
 refine OW_spell 20 (.tuple #[.agg #[.int .i64 gx.terms, .int .i64 gx.names, .slice ax rsx.length cx], .int .i64 ex]) rfl rfl ?_
 refine mO ?_
 refine OW_q (q_extract rfl rfl) rfl ?_
 refine OW_q (q_extract rfl rfl) rfl ?_
 refine OW_e (e_alloc Try.zeroValue24 rfl) rfl (fun b10 => ?_)
 refine OW_e0 (e_storeN Try.sizeOf24 rfl rfl rfl rfl (by simp [Value.oneCell']) swt (by rfl)) (fun _ => ?_)
 refine aO ?_
 refine nx2 ?_
 refine CW_seq ?_
 refine nx3 ?_
 refine mO ?_
 refine OW_q (q_nei rfl rfl) rfl ?_
 refine nx2 ?_
 refine CW_cond rfl (fun h24 => ?_) (fun h24 => ?_)
 · skip
   have hne : ex ≠ 0 := by simpa using h24
   refine nx3 ?_
   refine aO ?_
   refine aO ?_
   refine nx2 ?_
   refine CW_ret ?_
   refine EW_then_ret ?_
   refine ret2 Try.results26 rfl rfl (fun w hw => ?_)
   exact ⟨(.slice none 0 0, [], false), rfl, .inl ⟨gx, ex, hdx, hne, rfl, rfl⟩, ((hw.sub .nil).tnil 3 1 encN)⟩
 obtain ⟨hm, hs, ms, cs, hmk, hmh, hgx⟩ := do_ok hdx (by simpa using h24)
 refine CW_skip ?_
 refine EW_then ?_
 refine nx3 ?_
 refine OW_q (q_loadN_own Try.isAgg24 Try.sizeOf24 rfl rfl swt (by rfl)) rfl ?_
 refine OW_q (q_loadN_own Try.isAgg26 Try.sizeOf26 rfl rfl swt (by rfl)) rfl ?_
 refine OW_e (e_call Try.call42 rfl (fun w hw => lift_oldP (car_any _ g s w hm hs (hr.mono (fun _ _ h => hw.rd h))) hw)) rfl (fun x27 => ?_)
 refine OW_pure fun hx27 => ?_
 obtain ⟨cb, lv, ls, ms', cs'⟩ := x27
 have hcar0 : CarOk g s ls ms' cs' := hx27
 have hcar := car_mk hcar0 hmk
 refine OW_spell 27 (.pointer (some ⟨cb, 0, none⟩)) rfl rfl ?_
 refine aO ?_
 refine nx4 ?_
 refine OW_q (q_loadN_own Try.isAgg24 Try.sizeOf24 rfl rfl swt (by rfl)) rfl ?_
 refine mO ?_
 refine OW_q (q_makeFuncM (v := .pointer (some ⟨cb, 0, none⟩)) rfl) rfl ?_
 refine OW_spell 28 (.agg #[.int .i64 g.terms, .int .i64 g.names, .slice a g.rules.length c]) rfl rfl ?_
 refine OW_e (e_alloc Try.zeroValue24 rfl) rfl (fun b13 => ?_)
 refine OW_e0 (e_storeN Try.sizeOf24 rfl rfl rfl rfl (by simp [Value.oneCell']) swt (by rfl)) (fun _ => ?_)
 refine aO ?_
 refine nx2 ?_
 refine CW_seq ?_
 refine nx3 ?_
 refine mO ?_
 refine nx2 ?_
 refine CW_false rfl (rfl) ?_
 refine CW_skip ?_
 refine EW_then ?_
 refine nx3 ?_
 refine OW_q (q_loadN_own Try.isAgg24 Try.sizeOf24 rfl rfl swt (by rfl)) rfl ?_
 refine mO ?_
 refine OW_e (e_call Try.call45 rfl (fun w hw => lift_oldP (tree_any _ _ g d w (hg0.mono (fun _ _ h => hw.rd (Rd.old h))) (hd0.mono (fun _ _ h => hw.rd (Rd.old h)))) hw)) rfl (fun x37 => ?_)
 refine OW_pure fun hx37 => ?_
 have hx37 : TreeOk g d x37 := hx37
 refine aO ?_
 refine nx2 ?_
 refine CW_seq ?_
 refine nx3 ?_
 refine mO ?_
 refine OW_q (q_eqPtr Try.underlying80 rfl rfl) rfl ?_
 refine nx2 ?_
 refine CW_cond rfl (fun h39 => ?_) (fun h39 => ?_)
 · skip
   obtain rfl : x37 = none := by
     cases x37 with
     | none => rfl
     | some q => cases h39
   refine nx3 ?_
   refine aO ?_
   refine aO ?_
   refine nx2 ?_
   refine CW_ret ?_
   refine EW_then_ret ?_
   refine ret2 Try.results26 rfl rfl (fun w hw => ?_)
   exact ⟨(.slice none 0 0, [], false), rfl, .inr ⟨ms, cs, hm, hs, hmk, hmh, .inl ⟨fun hl => hx37 hm hl, rfl, rfl⟩⟩, ((hw.sub .nil).tnil 3 1 encN)⟩
 obtain ⟨⟨nb, fx⟩, rfl⟩ : ∃ q, x37 = some q := by
   cases x37 with
   | none => cases h39
   | some q => exact ⟨q, rfl⟩
 obtain ⟨_, h400, hps0⟩ := hx37
 have hps : PS g top0 d (some (fx, [])) := hps0
 obtain ⟨yx, hder⟩ := ps_der hps _ _ rfl
 obtain ⟨rx, qx, ks, rfl, _, _, _, _⟩ := der_one hder rfl
 have hfl : (For.cons rx ks .nil).flat = d := by
   have := ps_flat hps _ _ rfl
   rw [List.append_nil] at this
   exact this.symm
 have hfs : (For.cons rx ks .nil).size = d.length := by rw [← hfl, flat_size]
 have hC := (carries (g := g) (s := s) (ms := ms) (cs := cs) hm hs fun h5 => car5 (hmk.1 h5)).1
 rw [← hgx] at hC
 obtain ⟨hD, _, hS2⟩ := hC _ _ hder
 obtain ⟨r2, q2, k2, he2, _, _, _, _⟩ := der_one hD rfl
 have hfl2 : r2 :: k2.flat = (fwdT g s ms cs (.cons rx ks .nil)).flat := by rw [he2]; simp [For.flat]
 have hln2 : (r2 :: k2.flat).length = (fwdT g s ms cs (.cons rx ks .nil)).size := by rw [hfl2, flat_size]
 have hsz2 : (For.cons r2 k2 .nil).size ≤ 5000 := by rw [← he2]; omega
 refine CW_spell 15 (.pointer (some ⟨nb, 0, none⟩)) rfl rfl ?_
 refine CW_weak (S' := _) (fun w hw => (show Sat (Old _) _ (kidsA (.cons rx ks .nil) [nb] :: _) w from hw.pick (A := treeH (some (nb, .cons rx ks .nil))) pkt)) ?_
 refine CW_skip ?_
 refine EW_then ?_
 refine nx3 ?_
 refine mO ?_
 refine mO ?_
 refine OW_e (e_callv (f := 43) (first := [.pointer (some ⟨cb, 0, none⟩)]) (cap := []) Try.call43 rfl rfl (fun w hw => lift_old (forward_any g s ls ms cs hm hs hcar rx ks nb cb yx w (by omega) (car_at hw swt swt (hr.mono (fun _ _ h => hw.rd h))) (hw.kids swt) hder) hw)) rfl (fun x42 => ?_)
 refine OW_weak (fun w hw => by rw [he2] at hw; exact hw) ?_
 refine OW_e (e_call Try.call46 rfl (fun w hw => lift_old (flat_any 5000 r2 k2 x42 w hsz2 (Nat.le_refl _) (hw.kids swt)) hw)) rfl (fun x43 => ?_)
 refine OW_fact (fun w hw => hw.tform (v := x43) (l := (r2 :: k2.flat)) (enc := encN) swt) (fun hf => ?_)
 obtain ⟨a43, c43, rfl, _, _, hb43⟩ := hf
 refine aO ?_
 refine nx2 ?_
 refine CW_seq ?_
 refine nx3 ?_
 refine mO ?_
 refine OW_q (q_len Try.underlying32 rfl) rfl ?_
 refine OW_q (q_gtr rfl rfl) rfl ?_
 refine nx2 ?_
 refine CW_cond rfl (fun h46 => ?_) (fun h46 => ?_)
 · skip
   refine nx3 ?_
   refine aO ?_
   refine aO ?_
   refine nx2 ?_
   refine CW_ret ?_
   refine EW_then_ret ?_
   refine ret2 Try.results26 rfl rfl (fun w hw => ?_)
   exact ⟨(.slice none 0 0, [], false), rfl, .inr ⟨ms, cs, hm, hs, hmk, hmh, .inr ⟨.cons rx ks .nil, yx, hder, hfl, h400, .inr ⟨(by show 400 < (fwdT g s ms cs (.cons rx ks .nil)).size; have := of_decide_eq_true h46; omega), rfl, rfl⟩⟩⟩, ((hw.sub .nil).tnil 3 1 encN)⟩
 refine CW_skip ?_
 refine EW_then ?_
 refine nx3 ?_
 refine mO ?_
 refine aO ?_
 refine aO ?_
 refine nx2 ?_
 refine CW_ret ?_
 refine ret2 Try.results26 rfl rfl (fun w hw => ?_)
 exact ⟨(.slice a43 (r2 :: k2.flat).length c43, r2 :: k2.flat, true), rfl, .inr ⟨ms, cs, hm, hs, hmk, hmh, .inr ⟨.cons rx ks .nil, yx, hder, hfl, h400, .inl ⟨(by show (fwdT g s ms cs (.cons rx ks .nil)).size ≤ 400; have := of_decide_eq_false h46; omega), rfl, hfl2⟩⟩⟩, hw.sub sbt⟩

set_option maxRecDepth 20000 in
theorem carryB_any (gv dv : Value) (g : Gram) (s : SStep) (d : List Int) (w : World) (hg : GramAt (Cl w) gv g) (hd : IntsAt (Cl w) dv d) : Calls Try.prog 26 #[gv, stepV s, dv, .bool true] w (fun e w' => ∃ x : Value × List Int × Bool, e = .returned (.tuple #[x.1, .bool x.2.2]) ∧ CarryOk g s d true x.2.1 x.2.2 ∧ Sat (Old w) w [trow 3 1 encN x.1 x.2.1] w') := by
 have hd0 := hd
 have hg0 := hg
 obtain ⟨rv, rfl, hr⟩ := hg.mono old_rd
 obtain ⟨a, c, rfl, hc1, hc2, hrs⟩ := id hr
 clear hg
 obtain ⟨da, dc, rfl, hd1, hd2, hds⟩ := hd.mono old_rd
 clear hd
 refine calls_CW Try.func26 rfl Try.ntmps26 rfl (Sat.start w) ?_
 refine nx3 ?_
 refine OW_e (e_box rfl rfl) rfl (fun b4 => ?_)
 refine OW_e (e_box rfl rfl) rfl (fun b5 => ?_)
 refine aO ?_
 refine aO ?_
 refine nx4 ?_
 refine OW_q (q_loadN_own Try.isAgg24 Try.sizeOf24 rfl rfl swt (by rfl)) rfl ?_
 refine OW_q (q_loadN_own Try.isAgg26 Try.sizeOf26 rfl rfl swt (by rfl)) rfl ?_
 refine OW_e (e_call Try.call8 rfl (fun w hw => lift_oldP (do_any _ g s w (hg0.mono (fun _ _ h => hw.rd (Rd.old h)))) hw)) rfl (fun x20 => ?_)
 refine OW_pure fun hx20 => ?_
 obtain ⟨vx, gx, rsx, ex⟩ := x20
 obtain ⟨hd_x, hp_x⟩ := hx20
 have hpx : plainR rsx = gx.rules := hp_x
 have hdx : DoOk _ _ gx ex := hd_x
 refine OW_fact (fun w hw => hw.tform (v := vx) (l := rsx) (enc := encRV) swt) (fun hf => ?_)
 obtain ⟨ax, cx, rfl, _, _, hbx⟩ := hf
 refine OW_spell 20 (.tuple #[.agg #[.int .i64 gx.terms, .int .i64 gx.names, .slice ax rsx.length cx], .int .i64 ex]) rfl rfl ?_
 refine mO ?_
 refine OW_q (q_extract rfl rfl) rfl ?_
 refine OW_q (q_extract rfl rfl) rfl ?_
 refine OW_e (e_alloc Try.zeroValue24 rfl) rfl (fun b10 => ?_)
 refine OW_e0 (e_storeN Try.sizeOf24 rfl rfl rfl rfl (by simp [Value.oneCell']) swt (by rfl)) (fun _ => ?_)
 refine aO ?_
 refine nx2 ?_
 refine CW_seq ?_
 refine nx3 ?_
 refine mO ?_
 refine OW_q (q_nei rfl rfl) rfl ?_
 refine nx2 ?_
 refine CW_cond rfl (fun h24 => ?_) (fun h24 => ?_)
 · skip
   have hne : ex ≠ 0 := by simpa using h24
   refine nx3 ?_
   refine aO ?_
   refine aO ?_
   refine nx2 ?_
   refine CW_ret ?_
   refine EW_then_ret ?_
   refine ret2 Try.results26 rfl rfl (fun w hw => ?_)
   exact ⟨(.slice none 0 0, [], false), rfl, .inl ⟨gx, ex, hdx, hne, rfl, rfl⟩, ((hw.sub .nil).tnil 3 1 encN)⟩
 obtain ⟨hm, hs, ms, cs, hmk, hmh, hgx⟩ := do_ok hdx (by simpa using h24)
 refine CW_skip ?_
 refine EW_then ?_
 refine nx3 ?_
 refine OW_q (q_loadN_own Try.isAgg24 Try.sizeOf24 rfl rfl swt (by rfl)) rfl ?_
 refine OW_q (q_loadN_own Try.isAgg26 Try.sizeOf26 rfl rfl swt (by rfl)) rfl ?_
 refine OW_e (e_call Try.call42 rfl (fun w hw => lift_oldP (car_any _ g s w hm hs (hr.mono (fun _ _ h => hw.rd h))) hw)) rfl (fun x27 => ?_)
 refine OW_pure fun hx27 => ?_
 obtain ⟨cb, lv, ls, ms', cs'⟩ := x27
 have hcar0 : CarOk g s ls ms' cs' := hx27
 have hcar := car_mk hcar0 hmk
 refine OW_spell 27 (.pointer (some ⟨cb, 0, none⟩)) rfl rfl ?_
 refine aO ?_
 refine nx4 ?_
 refine OW_q (q_loadN_own Try.isAgg24 Try.sizeOf24 rfl rfl swt (by rfl)) rfl ?_
 refine mO ?_
 refine OW_q (q_makeFuncM (v := .pointer (some ⟨cb, 0, none⟩)) rfl) rfl ?_
 refine OW_spell 28 (.agg #[.int .i64 g.terms, .int .i64 g.names, .slice a g.rules.length c]) rfl rfl ?_
 refine OW_e (e_alloc Try.zeroValue24 rfl) rfl (fun b13 => ?_)
 refine OW_e0 (e_storeN Try.sizeOf24 rfl rfl rfl rfl (by simp [Value.oneCell']) swt (by rfl)) (fun _ => ?_)
 refine aO ?_
 refine nx2 ?_
 refine CW_seq ?_
 refine nx3 ?_
 refine mO ?_
 refine nx2 ?_
 refine CW_true rfl (rfl) ?_
 refine CW_region ?_
 refine OW_q (q_loadN_own Try.isAgg24 Try.sizeOf24 rfl rfl swt (by rfl)) rfl ?_
 refine mO ?_
 refine OW_q (q_makeFuncM (v := .pointer (some ⟨cb, 0, none⟩)) rfl) rfl ?_
 refine OW_e0 (e_storeN Try.sizeOf24 rfl rfl rfl rfl (by simp [Value.oneCell']) swt (by rfl)) (fun _ => ?_)
 refine aO ?_
 refine nx4 ?_
 refine OW_q (q_loadN_own Try.isAgg24 Try.sizeOf24 rfl rfl swt (by rfl)) rfl ?_
 refine mO ?_
 refine OW_e (e_call Try.call45 rfl (fun w hw => lift_oldP (tree_any _ _ gx d w (hw.gramIn3 hpx swt swt) (hd0.mono (fun _ _ h => hw.rd (Rd.old h)))) hw)) rfl (fun x37 => ?_)
 refine OW_pure fun hx37 => ?_
 have hx37 : TreeOk gx d x37 := hx37
 refine aO ?_
 refine nx2 ?_
 refine CW_seq ?_
 refine nx3 ?_
 refine mO ?_
 refine OW_q (q_eqPtr Try.underlying80 rfl rfl) rfl ?_
 refine nx2 ?_
 refine CW_cond rfl (fun h39 => ?_) (fun h39 => ?_)
 · skip
   obtain rfl : x37 = none := by
     cases x37 with
     | none => rfl
     | some q => cases h39
   refine nx3 ?_
   refine aO ?_
   refine aO ?_
   refine nx2 ?_
   refine CW_ret ?_
   refine EW_then_ret ?_
   refine ret2 Try.results26 rfl rfl (fun w hw => ?_)
   exact ⟨(.slice none 0 0, [], false), rfl, .inr ⟨ms, cs, hm, hs, hmk, hmh, .inl ⟨fun hl => by have := hx37 (by rw [hgx]; exact hmh) hl; rw [hgx] at this; exact this, rfl, rfl⟩⟩, ((hw.sub .nil).tnil 3 1 encN)⟩
 obtain ⟨⟨nb, fx⟩, rfl⟩ : ∃ q, x37 = some q := by
   cases x37 with
   | none => cases h39
   | some q => exact ⟨q, rfl⟩
 obtain ⟨_, h400, hps0⟩ := hx37
 have hps : PS gx top0 d (some (fx, [])) := hps0
 obtain ⟨yx, hder⟩ := ps_der hps _ _ rfl
 obtain ⟨rx, qx, ks, rfl, _, _, _, _⟩ := der_one hder rfl
 have hfl : (For.cons rx ks .nil).flat = d := by
   have := ps_flat hps _ _ rfl
   rw [List.append_nil] at this
   exact this.symm
 have hfs : (For.cons rx ks .nil).size = d.length := by rw [← hfl, flat_size]
 have hC := (carries (g := g) (s := s) (ms := ms) (cs := cs) hm hs fun h5 => car5 (hmk.1 h5)).2
 rw [← hgx] at hC
 obtain ⟨hD, _, hS2⟩ := hC _ _ hder
 obtain ⟨r2, q2, k2, he2, _, _, _, _⟩ := der_one hD rfl
 have hfl2 : r2 :: k2.flat = (bkT g s ms cs (.cons rx ks .nil)).flat := by rw [he2]; simp [For.flat]
 have hln2 : (r2 :: k2.flat).length = (bkT g s ms cs (.cons rx ks .nil)).size := by rw [hfl2, flat_size]
 have hsz2 : (For.cons r2 k2 .nil).size ≤ 5000 := by rw [← he2]; omega
 refine CW_spell 15 (.pointer (some ⟨nb, 0, none⟩)) rfl rfl ?_
 refine CW_weak (S' := _) (fun w hw => (show Sat (Old _) _ (kidsA (.cons rx ks .nil) [nb] :: _) w from hw.pick (A := treeH (some (nb, .cons rx ks .nil))) pkt)) ?_
 refine CW_skip ?_
 refine EW_then ?_
 refine nx3 ?_
 refine mO ?_
 refine mO ?_
 refine OW_e (e_callv (f := 44) (first := [.pointer (some ⟨cb, 0, none⟩)]) (cap := []) Try.call44 rfl rfl (fun w hw => lift_old (back_any g s ls ms cs hm hs hcar hmh rx ks nb cb yx w (by omega) (car_at hw swt swt (hr.mono (fun _ _ h => hw.rd h))) (hw.kids swt) (by rw [← hgx]; exact hder)) hw)) rfl (fun x42 => ?_)
 refine OW_weak (fun w hw => by rw [he2] at hw; exact hw) ?_
 refine OW_e (e_call Try.call46 rfl (fun w hw => lift_old (flat_any 5000 r2 k2 x42 w hsz2 (Nat.le_refl _) (hw.kids swt)) hw)) rfl (fun x43 => ?_)
 refine OW_fact (fun w hw => hw.tform (v := x43) (l := (r2 :: k2.flat)) (enc := encN) swt) (fun hf => ?_)
 obtain ⟨a43, c43, rfl, _, _, hb43⟩ := hf
 refine aO ?_
 refine nx2 ?_
 refine CW_seq ?_
 refine nx3 ?_
 refine mO ?_
 refine OW_q (q_len Try.underlying32 rfl) rfl ?_
 refine OW_q (q_gtr rfl rfl) rfl ?_
 refine nx2 ?_
 refine CW_cond rfl (fun h46 => ?_) (fun h46 => ?_)
 · skip
   refine nx3 ?_
   refine aO ?_
   refine aO ?_
   refine nx2 ?_
   refine CW_ret ?_
   refine EW_then_ret ?_
   refine ret2 Try.results26 rfl rfl (fun w hw => ?_)
   exact ⟨(.slice none 0 0, [], false), rfl, .inr ⟨ms, cs, hm, hs, hmk, hmh, .inr ⟨.cons rx ks .nil, yx, (by rw [hgx] at hder; exact hder), hfl, h400, .inr ⟨(by show 400 < (bkT g s ms cs (.cons rx ks .nil)).size; have := of_decide_eq_true h46; omega), rfl, rfl⟩⟩⟩, ((hw.sub .nil).tnil 3 1 encN)⟩
 refine CW_skip ?_
 refine EW_then ?_
 refine nx3 ?_
 refine mO ?_
 refine aO ?_
 refine aO ?_
 refine nx2 ?_
 refine CW_ret ?_
 refine ret2 Try.results26 rfl rfl (fun w hw => ?_)
 exact ⟨(.slice a43 (r2 :: k2.flat).length c43, r2 :: k2.flat, true), rfl, .inr ⟨ms, cs, hm, hs, hmk, hmh, .inr ⟨.cons rx ks .nil, yx, (by rw [hgx] at hder; exact hder), hfl, h400, .inl ⟨(by show (bkT g s ms cs (.cons rx ks .nil)).size ≤ 400; have := of_decide_eq_false h46; omega), rfl, hfl2⟩⟩⟩, hw.sub sbt⟩

set_option maxRecDepth 20000 in
theorem fwdS_any (gv dv : Value) (g : Gram) (s : SStep) (d : List Int) (w : World) (hg : GramAt (Cl w) gv g) (hd : IntsAt (Cl w) dv d) : Calls Try.prog 16 #[gv, stepV s, dv] w (fun e w' => ∃ x : Value × List Int × Bool, e = .returned (.tuple #[x.1, .bool x.2.2]) ∧ CarryOk g s d false x.2.1 x.2.2 ∧ Sat (Old w) w [trow 3 1 encN x.1 x.2.1] w') := by
 have hd0 := hd
 have hg0 := hg
 obtain ⟨rv, rfl, hr⟩ := hg.mono old_rd
 obtain ⟨a, c, rfl, hc1, hc2, hrs⟩ := id hr
 clear hg
 obtain ⟨da, dc, rfl, hd1, hd2, hds⟩ := hd.mono old_rd
 clear hd
 refine calls_CW Try.func16 rfl Try.ntmps16 rfl (Sat.start w) ?_
 refine nx3 ?_
 refine OW_e (e_box rfl rfl) rfl (fun b3 => ?_)
 refine OW_e (e_box rfl rfl) rfl (fun b4 => ?_)
 refine aO ?_
 refine aO ?_
 refine nx4 ?_
 refine OW_q (q_loadN_own Try.isAgg24 Try.sizeOf24 rfl rfl swt (by rfl)) rfl ?_
 refine OW_q (q_loadN_own Try.isAgg26 Try.sizeOf26 rfl rfl swt (by rfl)) rfl ?_
 refine mO ?_
 refine OW_e (e_call Try.call26 rfl (fun w hw => lift_oldP (carryF_any _ _ g s d w (hg0.mono (fun _ _ h => hw.rd (Rd.old h))) (hd0.mono (fun _ _ h => hw.rd (Rd.old h)))) hw)) rfl (fun x11 => ?_)
 refine OW_pure fun hx11 => ?_
 refine OW_q (q_extract rfl rfl) rfl ?_
 refine OW_q (q_extract rfl rfl) rfl ?_
 refine aO ?_
 refine aO ?_
 refine nx2 ?_
 refine CW_ret ?_
 refine ret2 Try.results16 rfl rfl (fun w hw => ?_)
 exact ⟨x11, rfl, hx11, hw.sub sbt⟩

set_option maxRecDepth 20000 in
theorem bckS_any (gv dv : Value) (g : Gram) (s : SStep) (d : List Int) (w : World) (hg : GramAt (Cl w) gv g) (hd : IntsAt (Cl w) dv d) : Calls Try.prog 17 #[gv, stepV s, dv] w (fun e w' => ∃ x : Value × List Int × Bool, e = .returned (.tuple #[x.1, .bool x.2.2]) ∧ CarryOk g s d true x.2.1 x.2.2 ∧ Sat (Old w) w [trow 3 1 encN x.1 x.2.1] w') := by
 have hd0 := hd
 have hg0 := hg
 obtain ⟨rv, rfl, hr⟩ := hg.mono old_rd
 obtain ⟨a, c, rfl, hc1, hc2, hrs⟩ := id hr
 clear hg
 obtain ⟨da, dc, rfl, hd1, hd2, hds⟩ := hd.mono old_rd
 clear hd
 refine calls_CW Try.func17 rfl Try.ntmps17 rfl (Sat.start w) ?_
 refine nx3 ?_
 refine OW_e (e_box rfl rfl) rfl (fun b3 => ?_)
 refine OW_e (e_box rfl rfl) rfl (fun b4 => ?_)
 refine aO ?_
 refine aO ?_
 refine nx4 ?_
 refine OW_q (q_loadN_own Try.isAgg24 Try.sizeOf24 rfl rfl swt (by rfl)) rfl ?_
 refine OW_q (q_loadN_own Try.isAgg26 Try.sizeOf26 rfl rfl swt (by rfl)) rfl ?_
 refine mO ?_
 refine OW_e (e_call Try.call26 rfl (fun w hw => lift_oldP (carryB_any _ _ g s d w (hg0.mono (fun _ _ h => hw.rd (Rd.old h))) (hd0.mono (fun _ _ h => hw.rd (Rd.old h)))) hw)) rfl (fun x11 => ?_)
 refine OW_pure fun hx11 => ?_
 refine OW_q (q_extract rfl rfl) rfl ?_
 refine OW_q (q_extract rfl rfl) rfl ?_
 refine aO ?_
 refine aO ?_
 refine nx2 ?_
 refine CW_ret ?_
 refine ret2 Try.results17 rfl rfl (fun w hw => ?_)
 exact ⟨x11, rfl, hx11, hw.sub sbt⟩

end Go.Sy
/- StepForward. No condition. -/
namespace Go.Sy
open Go Go.RowKit Go.Proofs

theorem do8_any (gv : Value) (g : Gram) (s : SStep) (w : World) (hg : GramAt (Cl w) gv g) : Calls Try.prog 9 #[gv, stepV s] w (fun e w' => ∃ x : Value × Gram × List RV × Int, e = .returned (.tuple #[.agg #[.int .i64 x.2.1.terms, .int .i64 x.2.1.names, x.1], .int .i64 x.2.2.2]) ∧ (DoOk8 g s x.2.1 x.2.2.2 ∧ plainR x.2.2.1 = x.2.1.rules) ∧ Sat (Old w) w [rulesA x.1 x.2.2.1, symsA x.2.2.1] w') := by
 by_cases h2 : s.op = 2
 · exact do82_any gv g s w h2 hg
 by_cases h4 : s.op = 4
 · exact do84_any gv g s w h4 hg
 exact do8x_any gv g s w h2 h4 hg
set_option maxRecDepth 20000 in
theorem stepForward_any (gv dv : Value) (g : Gram) (s : SStep) (d : List Int) (w : World) (hg : GramAt (Cl w) gv g) (hd : IntsAt (Cl w) dv d) : Calls Try.prog 6 #[gv, stepV s, dv] w (fun e w' => e = .returned (.bool true) ∧ Sat (Old w) w [] w') := by
 have hd0 := hd
 have hg0 := hg
 obtain ⟨rv, rfl, hr⟩ := hg.mono old_rd
 obtain ⟨a, c, rfl, hc1, hc2, hrs⟩ := id hr
 clear hg
 obtain ⟨da, dc, rfl, hd1, hd2, hds⟩ := hd.mono old_rd
 clear hd
 refine calls_CW Try.func6 rfl Try.ntmps6 rfl (Sat.start w) ?_
 refine nx3 ?_
 refine OW_e (e_box rfl rfl) rfl (fun b3 => ?_)
 refine OW_e (e_box rfl rfl) rfl (fun b4 => ?_)
 refine aO ?_
 refine nx4 ?_
 refine OW_q (q_loadN_own Try.isAgg24 Try.sizeOf24 rfl rfl swt (by rfl)) rfl ?_
 refine OW_q (q_loadN_own Try.isAgg26 Try.sizeOf26 rfl rfl swt (by rfl)) rfl ?_
 refine OW_e (e_call Try.call9 rfl (fun w hw => lift_oldP (do8_any _ g s w (hg0.mono (fun _ _ h => hw.rd (Rd.old h)))) hw)) rfl (fun x22 => ?_)
 refine OW_pure fun hx22 => ?_
 obtain ⟨vx, gx, rsx, ex⟩ := x22
 obtain ⟨hd_x, hp_x⟩ := hx22
 have hpx : plainR rsx = gx.rules := hp_x
 have hdx : DoOk8 _ _ gx ex := hd_x
 refine OW_fact (fun w hw => hw.tform (v := vx) (l := rsx) (enc := encRV) swt) (fun hf => ?_)
 obtain ⟨ax, cx, rfl, _, _, hbx⟩ := hf
 refine OW_spell 22 (.tuple #[.agg #[.int .i64 gx.terms, .int .i64 gx.names, .slice ax rsx.length cx], .int .i64 ex]) rfl rfl ?_
 refine mO ?_
 refine OW_q (q_extract rfl rfl) rfl ?_
 refine OW_q (q_extract rfl rfl) rfl ?_
 refine OW_e (e_alloc Try.zeroValue24 rfl) rfl (fun b7 => ?_)
 refine OW_e0 (e_storeN Try.sizeOf24 rfl rfl rfl rfl (by simp [Value.oneCell']) swt (by rfl)) (fun _ => ?_)
 refine aO ?_
 refine nx4 ?_
 refine OW_q (q_loadN_own Try.isAgg24 Try.sizeOf24 rfl rfl swt (by rfl)) rfl ?_
 refine mO ?_
 refine OW_e (e_call Try.call15 rfl (fun w hw => lift_oldP (through2_any _ _ g d w (hg0.mono (fun _ _ h => hw.rd (Rd.old h))) (hd0.mono (fun _ _ h => hw.rd (Rd.old h)))) hw)) rfl (fun x28 => ?_)
 refine OW_pure fun hx28 => ?_
 refine mO ?_
 refine OW_q (q_extract rfl rfl) rfl ?_
 refine OW_q (q_extract rfl rfl) rfl ?_
 refine OW_q (q_extract rfl rfl) rfl ?_
 refine aO ?_
 refine aO ?_
 refine aO ?_
 refine nx4 ?_
 refine OW_q (q_loadN_own Try.isAgg24 Try.sizeOf24 rfl rfl swt (by rfl)) rfl ?_
 refine OW_q (q_loadN_own Try.isAgg26 Try.sizeOf26 rfl rfl swt (by rfl)) rfl ?_
 refine mO ?_
 refine OW_e (e_call Try.call16 rfl (fun w hw => lift_oldP (fwdS_any _ _ g s d w (hg0.mono (fun _ _ h => hw.rd (Rd.old h))) (hd0.mono (fun _ _ h => hw.rd (Rd.old h)))) hw)) rfl (fun x36 => ?_)
 refine OW_pure fun hx36 => ?_
 obtain ⟨v36, l, ok⟩ := x36
 have hc : CarryOk g s d false l ok := hx36
 refine OW_fact (fun w hw => hw.tform (v := v36) (l := l) (enc := encN) swt) (fun hf => ?_)
 obtain ⟨a36, c36, rfl, _, _, hb36⟩ := hf
 refine OW_spell 36 (.tuple #[.slice a36 l.length c36, .bool ok]) rfl rfl ?_
 have hL := fwd_law hdx hx28.1 hc
 refine mO ?_
 refine OW_q (q_extract rfl rfl) rfl ?_
 refine OW_q (q_extract rfl rfl) rfl ?_
 refine aO ?_
 refine aO ?_
 refine nx2 ?_
 refine CW_seq ?_
 refine nx3 ?_
 refine mO ?_
 refine OW_q (q_nei rfl rfl) rfl ?_
 refine mO ?_
 refine OW_part (t := 41) rfl (fun hg41 => ?_) (fun hg41 => ?_)
 · skip
   have hno := hL.1 (.inl (by simpa using hg41))
   refine kO ?_
   refine kO ?_
   refine OW_q (q_pick_t rfl rfl) rfl ?_
   refine nx2 ?_
   refine CW_true rfl rfl ?_
   refine nx3 ?_
   refine mO ?_
   refine OW_q (q_not rfl) rfl ?_
   refine mO ?_
   refine OW_part (t := 47) rfl (fun hg47 => ?_) (fun hg47 => ?_)
   · skip
     refine wO ?_
     refine mO ?_
     refine wO ?_
     refine OW_q (q_len Try.underlying32 rfl) rfl ?_
     refine wO ?_
     refine OW_q (q_eqi rfl rfl) rfl ?_
     refine OW_q (q_pick_t rfl rfl) rfl ?_
     refine aO ?_
     refine nx2 ?_
     refine CW_ret ?_
     refine EW_then_ret ?_
     refine ret1 Try.results6 rfl (fun w hw => ?_)
     exact ⟨by simp [hno.2], hw.sub .nil⟩
   exact absurd hg47 (by simp [hno.1]) --stop
 have hez : ex = 0 := by simpa using hg41
 refine wO ?_
 refine mO ?_
 refine wO ?_
 refine OW_q (q_not rfl) rfl ?_
 refine OW_q (q_pick_f rfl rfl) rfl ?_
 refine nx2 ?_
 refine CW_cond rfl (fun h44 => ?_) (fun h44 => ?_)
 · skip
   have hno := hL.1 (by exact .inr (by simpa using h44))
   refine nx3 ?_
   refine mO ?_
   refine OW_q (q_not rfl) rfl ?_
   refine mO ?_
   refine OW_part (t := 47) rfl (fun hg47 => ?_) (fun hg47 => ?_)
   · skip
     refine wO ?_
     refine mO ?_
     refine wO ?_
     refine OW_q (q_len Try.underlying32 rfl) rfl ?_
     refine wO ?_
     refine OW_q (q_eqi rfl rfl) rfl ?_
     refine OW_q (q_pick_t rfl rfl) rfl ?_
     refine aO ?_
     refine nx2 ?_
     refine CW_ret ?_
     refine EW_then_ret ?_
     refine ret1 Try.results6 rfl (fun w hw => ?_)
     exact ⟨by simp [hno.2], hw.sub .nil⟩
   exact absurd hg47 (by simp [hno.1]) --stop
 have hxk : x28.ok = true := by simpa using h44
 refine CW_skip ?_
 refine EW_then ?_
 refine CW_seq ?_
 refine nx3 ?_
 refine mO ?_
 refine OW_q (q_len Try.underlying32 rfl) rfl ?_
 refine OW_q (q_gtr rfl rfl) rfl ?_
 refine nx2 ?_
 refine CW_cond rfl (fun h54 => ?_) (fun h54 => ?_)
 · skip
   refine nx3 ?_
   refine aO ?_
   refine nx2 ?_
   refine CW_ret ?_
   refine EW_then_ret ?_
   refine ret1 Try.results6 rfl (fun w hw => ?_)
   exact ⟨rfl, hw.sub .nil⟩
 obtain ⟨hF1, hF2, hF3⟩ := hL.2 hez hxk (by have := of_decide_eq_false h54; omega)
 refine CW_skip ?_
 refine EW_then ?_
 refine nx3 ?_
 refine OW_q (q_loadN_own Try.isAgg24 Try.sizeOf24 rfl rfl swt (by rfl)) rfl ?_
 refine mO ?_
 refine OW_e (e_call Try.call15 rfl (fun w hw => lift_oldP (through2_any _ _ gx l w (hw.gramIn3 hpx swt swt) (hw.tints swt)) hw)) rfl (fun x58 => ?_)
 refine OW_pure fun hx58 => ?_
 obtain ⟨hy1, hy2⟩ := hF2 x58 hx58.1
 refine mO ?_
 refine OW_q (q_extract rfl rfl) rfl ?_
 refine OW_q (q_extract rfl rfl) rfl ?_
 refine OW_q (q_extract rfl rfl) rfl ?_
 refine aO ?_
 refine aO ?_
 refine aO ?_
 refine nx4 ?_
 refine OW_q (q_loadN_own Try.isAgg24 Try.sizeOf24 rfl rfl swt (by rfl)) rfl ?_
 refine OW_q (q_loadN_own Try.isAgg26 Try.sizeOf26 rfl rfl swt (by rfl)) rfl ?_
 refine mO ?_
 refine OW_e (e_call Try.call17 rfl (fun w hw => lift_oldP (bckS_any _ _ g s l w (hg0.mono (fun _ _ h => hw.rd (Rd.old h))) (hw.tints swt)) hw)) rfl (fun x66 => ?_)
 refine OW_pure fun hx66 => ?_
 obtain ⟨v66, z, bk⟩ := x66
 have hz : CarryOk g s l true z bk := hx66
 refine OW_fact (fun w hw => hw.tform (v := v66) (l := z) (enc := encN) swt) (fun hf => ?_)
 obtain ⟨a66, c66, rfl, _, _, hb66⟩ := hf
 refine OW_spell 66 (.tuple #[.slice a66 z.length c66, .bool bk]) rfl rfl ?_
 obtain ⟨hb1, hb2⟩ := hF3 z bk hz
 refine mO ?_
 refine OW_q (q_extract rfl rfl) rfl ?_
 refine OW_q (q_extract rfl rfl) rfl ?_
 refine aO ?_
 refine aO ?_
 refine nx4 ?_
 refine mO ?_
 refine mO ?_
 refine OW_part (t := 70) rfl (fun hg70 => ?_) (fun hg70 => ?_)
 · skip
   refine wO ?_
   refine mO ?_
   refine OW_q (q_pick_t rfl rfl) rfl ?_
   refine mO ?_
   refine OW_part (t := 73) rfl (fun hg73 => ?_) (fun hg73 => ?_)
   · skip
     refine wO ?_
     refine mO ?_
     refine wO ?_
     refine mO ?_
     refine wO ?_
     refine OW_e (e_call Try.call18 rfl (fun w hw => lift_ro (ints_any _ _ x58.out x28.out w (hw.tints swt) (hw.tints swt)) hw)) rfl (fun x76 => ?_)
     refine OW_q (q_pick_t rfl rfl) rfl ?_
     refine mO ?_
     refine OW_part (t := 78) rfl (fun hg78 => ?_) (fun hg78 => ?_)
     · skip
       refine wO ?_
       refine mO ?_
       refine OW_q (q_pick_t rfl rfl) rfl ?_
       refine mO ?_
       refine OW_part (t := 81) rfl (fun hg81 => ?_) (fun hg81 => ?_)
       · skip
         refine wO ?_
         refine mO ?_
         refine wO ?_
         refine mO ?_
         refine wO ?_
         refine OW_e (e_call Try.call18 rfl (fun w hw => lift_ro (ints_any _ _ z d w (hw.tints swt) (hd0.mono (fun _ _ h => hw.rd (Rd.old h)))) hw)) rfl (fun x84 => ?_)
         refine OW_q (q_pick_t rfl rfl) rfl ?_
         refine aO ?_
         refine nx2 ?_
         refine CW_ret ?_
         refine ret1 Try.results6 rfl (fun w hw => ?_)
         exact ⟨by simp [hb2], hw.sub .nil⟩
       exact absurd hg81 (by simp [hb1]) --stop
     exact absurd hg78 (by simp [hy2]) --stop
   exact absurd hg73 (by simp [hy1]) --stop
 exact absurd hg70 (by simp [hF1]) --stop

end Go.Sy
/- StepBack. No condition. -/
namespace Go.Sy
open Go Go.RowKit Go.Proofs

set_option maxRecDepth 20000 in
theorem stepBack_any (gv dv : Value) (g : Gram) (s : SStep) (d : List Int) (w : World) (hg : GramAt (Cl w) gv g) (hd : IntsAt (Cl w) dv d) : Calls Try.prog 7 #[gv, stepV s, dv] w (fun e w' => e = .returned (.bool true) ∧ Sat (Old w) w [] w') := by
 have hd0 := hd
 have hg0 := hg
 obtain ⟨rv, rfl, hr⟩ := hg.mono old_rd
 obtain ⟨a, c, rfl, hc1, hc2, hrs⟩ := id hr
 clear hg
 obtain ⟨da, dc, rfl, hd1, hd2, hds⟩ := hd.mono old_rd
 clear hd
 refine calls_CW Try.func7 rfl Try.ntmps7 rfl (Sat.start w) ?_
 refine nx3 ?_
 refine OW_e (e_box rfl rfl) rfl (fun b3 => ?_)
 refine OW_e (e_box rfl rfl) rfl (fun b4 => ?_)
 refine aO ?_
 refine nx4 ?_
 refine OW_q (q_loadN_own Try.isAgg24 Try.sizeOf24 rfl rfl swt (by rfl)) rfl ?_
 refine OW_q (q_loadN_own Try.isAgg26 Try.sizeOf26 rfl rfl swt (by rfl)) rfl ?_
 refine OW_e (e_call Try.call9 rfl (fun w hw => lift_oldP (do8_any _ g s w (hg0.mono (fun _ _ h => hw.rd (Rd.old h)))) hw)) rfl (fun x22 => ?_)
 refine OW_pure fun hx22 => ?_
 obtain ⟨vx, gx, rsx, ex⟩ := x22
 obtain ⟨hd_x, hp_x⟩ := hx22
 have hpx : plainR rsx = gx.rules := hp_x
 have hdx : DoOk8 _ _ gx ex := hd_x
 refine OW_fact (fun w hw => hw.tform (v := vx) (l := rsx) (enc := encRV) swt) (fun hf => ?_)
 obtain ⟨ax, cx, rfl, _, _, hbx⟩ := hf
 refine OW_spell 22 (.tuple #[.agg #[.int .i64 gx.terms, .int .i64 gx.names, .slice ax rsx.length cx], .int .i64 ex]) rfl rfl ?_
 refine mO ?_
 refine OW_q (q_extract rfl rfl) rfl ?_
 refine OW_q (q_extract rfl rfl) rfl ?_
 refine OW_e (e_alloc Try.zeroValue24 rfl) rfl (fun b7 => ?_)
 refine OW_e0 (e_storeN Try.sizeOf24 rfl rfl rfl rfl (by simp [Value.oneCell']) swt (by rfl)) (fun _ => ?_)
 refine aO ?_
 refine nx4 ?_
 refine OW_q (q_loadN_own Try.isAgg24 Try.sizeOf24 rfl rfl swt (by rfl)) rfl ?_
 refine OW_q (q_loadN_own Try.isAgg26 Try.sizeOf26 rfl rfl swt (by rfl)) rfl ?_
 refine mO ?_
 refine OW_e (e_call Try.call17 rfl (fun w hw => lift_oldP (bckS_any _ _ g s d w (hg0.mono (fun _ _ h => hw.rd (Rd.old h))) (hd0.mono (fun _ _ h => hw.rd (Rd.old h)))) hw)) rfl (fun x29 => ?_)
 refine OW_pure fun hx29 => ?_
 obtain ⟨v29, l, ok⟩ := x29
 have hc : CarryOk g s d true l ok := hx29
 refine OW_fact (fun w hw => hw.tform (v := v29) (l := l) (enc := encN) swt) (fun hf => ?_)
 obtain ⟨a29, c29, rfl, _, _, hb29⟩ := hf
 refine OW_spell 29 (.tuple #[.slice a29 l.length c29, .bool ok]) rfl rfl ?_
 have hL := back_law hdx hc
 refine mO ?_
 refine OW_q (q_extract rfl rfl) rfl ?_
 refine OW_q (q_extract rfl rfl) rfl ?_
 refine aO ?_
 refine aO ?_
 refine nx2 ?_
 refine CW_seq ?_
 refine nx3 ?_
 refine mO ?_
 refine OW_q (q_nei rfl rfl) rfl ?_
 refine nx2 ?_
 refine CW_cond rfl (fun h33 => ?_) (fun h33 => ?_)
 · skip
   have hno := hL.1 (by simpa using h33)
   refine nx3 ?_
   refine mO ?_
   refine OW_q (q_not rfl) rfl ?_
   refine mO ?_
   refine OW_part (t := 36) rfl (fun hg36 => ?_) (fun hg36 => ?_)
   · skip
     refine wO ?_
     refine mO ?_
     refine wO ?_
     refine OW_q (q_len Try.underlying32 rfl) rfl ?_
     refine wO ?_
     refine OW_q (q_eqi rfl rfl) rfl ?_
     refine OW_q (q_pick_t rfl rfl) rfl ?_
     refine aO ?_
     refine nx2 ?_
     refine CW_ret ?_
     refine EW_then_ret ?_
     refine ret1 Try.results7 rfl (fun w hw => ?_)
     exact ⟨by simp [hno.2], hw.sub .nil⟩
   exact absurd hg36 (by simp [hno.1]) --stop
 have hez : ex = 0 := by simpa using h33
 refine CW_skip ?_
 refine EW_then ?_
 refine nx3 ?_
 refine OW_q (q_loadN_own Try.isAgg24 Try.sizeOf24 rfl rfl swt (by rfl)) rfl ?_
 refine mO ?_
 refine OW_e (e_call Try.call15 rfl (fun w hw => lift_oldP (through2_any _ _ gx d w (hw.gramIn3 hpx swt swt) (hd0.mono (fun _ _ h => hw.rd (Rd.old h)))) hw)) rfl (fun x44 => ?_)
 refine OW_pure fun hx44 => ?_
 have hL2 := hL.2 hez x44 hx44.1
 refine mO ?_
 refine OW_q (q_extract rfl rfl) rfl ?_
 refine OW_q (q_extract rfl rfl) rfl ?_
 refine OW_q (q_extract rfl rfl) rfl ?_
 refine aO ?_
 refine aO ?_
 refine aO ?_
 refine nx2 ?_
 refine CW_seq ?_
 refine nx3 ?_
 refine mO ?_
 refine OW_q (q_not rfl) rfl ?_
 refine nx2 ?_
 refine CW_cond rfl (fun h49 => ?_) (fun h49 => ?_)
 · skip
   have hno := hL2.1 (by simpa using h49)
   refine nx3 ?_
   refine mO ?_
   refine OW_q (q_not rfl) rfl ?_
   refine mO ?_
   refine OW_part (t := 52) rfl (fun hg52 => ?_) (fun hg52 => ?_)
   · skip
     refine wO ?_
     refine mO ?_
     refine wO ?_
     refine OW_q (q_len Try.underlying32 rfl) rfl ?_
     refine wO ?_
     refine OW_q (q_eqi rfl rfl) rfl ?_
     refine OW_q (q_pick_t rfl rfl) rfl ?_
     refine aO ?_
     refine nx2 ?_
     refine CW_ret ?_
     refine EW_then_ret ?_
     refine ret1 Try.results7 rfl (fun w hw => ?_)
     exact ⟨by simp [hno.2], hw.sub .nil⟩
   exact absurd hg52 (by simp [hno.1]) --stop
 have hxk : x44.ok = true := by simpa using h49
 refine CW_skip ?_
 refine EW_then ?_
 refine CW_seq ?_
 refine nx3 ?_
 refine mO ?_
 refine OW_q (q_len Try.underlying32 rfl) rfl ?_
 refine OW_q (q_gtr rfl rfl) rfl ?_
 refine nx2 ?_
 refine CW_cond rfl (fun h59 => ?_) (fun h59 => ?_)
 · skip
   refine nx3 ?_
   refine aO ?_
   refine nx2 ?_
   refine CW_ret ?_
   refine EW_then_ret ?_
   refine ret1 Try.results7 rfl (fun w hw => ?_)
   exact ⟨rfl, hw.sub .nil⟩
 obtain ⟨hF1, hF2, hF3⟩ := hL2.2 hxk (by have := of_decide_eq_false h59; omega)
 refine CW_skip ?_
 refine EW_then ?_
 refine nx3 ?_
 refine OW_q (q_loadN_own Try.isAgg24 Try.sizeOf24 rfl rfl swt (by rfl)) rfl ?_
 refine mO ?_
 refine OW_e (e_call Try.call15 rfl (fun w hw => lift_oldP (through2_any _ _ g l w (hg0.mono (fun _ _ h => hw.rd (Rd.old h))) (hw.tints swt)) hw)) rfl (fun x63 => ?_)
 refine OW_pure fun hx63 => ?_
 obtain ⟨hy1, hy2⟩ := hF2 x63 hx63.1
 refine mO ?_
 refine OW_q (q_extract rfl rfl) rfl ?_
 refine OW_q (q_extract rfl rfl) rfl ?_
 refine OW_q (q_extract rfl rfl) rfl ?_
 refine aO ?_
 refine aO ?_
 refine aO ?_
 refine nx4 ?_
 refine OW_q (q_loadN_own Try.isAgg24 Try.sizeOf24 rfl rfl swt (by rfl)) rfl ?_
 refine OW_q (q_loadN_own Try.isAgg26 Try.sizeOf26 rfl rfl swt (by rfl)) rfl ?_
 refine mO ?_
 refine OW_e (e_call Try.call16 rfl (fun w hw => lift_oldP (fwdS_any _ _ g s l w (hg0.mono (fun _ _ h => hw.rd (Rd.old h))) (hw.tints swt)) hw)) rfl (fun x71 => ?_)
 refine OW_pure fun hx71 => ?_
 obtain ⟨v71, z, bk⟩ := x71
 have hz : CarryOk g s l false z bk := hx71
 refine OW_fact (fun w hw => hw.tform (v := v71) (l := z) (enc := encN) swt) (fun hf => ?_)
 obtain ⟨a71, c71, rfl, _, _, hb71⟩ := hf
 refine OW_spell 71 (.tuple #[.slice a71 z.length c71, .bool bk]) rfl rfl ?_
 obtain ⟨hb1, hb2⟩ := hF3 z bk hz
 refine mO ?_
 refine OW_q (q_extract rfl rfl) rfl ?_
 refine OW_q (q_extract rfl rfl) rfl ?_
 refine aO ?_
 refine aO ?_
 refine nx4 ?_
 refine mO ?_
 refine mO ?_
 refine OW_part (t := 75) rfl (fun hg75 => ?_) (fun hg75 => ?_)
 · skip
   refine wO ?_
   refine mO ?_
   refine OW_q (q_pick_t rfl rfl) rfl ?_
   refine mO ?_
   refine OW_part (t := 78) rfl (fun hg78 => ?_) (fun hg78 => ?_)
   · skip
     refine wO ?_
     refine mO ?_
     refine wO ?_
     refine mO ?_
     refine wO ?_
     refine OW_e (e_call Try.call18 rfl (fun w hw => lift_ro (ints_any _ _ x63.out x44.out w (hw.tints swt) (hw.tints swt)) hw)) rfl (fun x81 => ?_)
     refine OW_q (q_pick_t rfl rfl) rfl ?_
     refine mO ?_
     refine OW_part (t := 83) rfl (fun hg83 => ?_) (fun hg83 => ?_)
     · skip
       refine wO ?_
       refine mO ?_
       refine OW_q (q_pick_t rfl rfl) rfl ?_
       refine mO ?_
       refine OW_part (t := 86) rfl (fun hg86 => ?_) (fun hg86 => ?_)
       · skip
         refine wO ?_
         refine mO ?_
         refine wO ?_
         refine mO ?_
         refine wO ?_
         refine OW_e (e_call Try.call18 rfl (fun w hw => lift_ro (ints_any _ _ z d w (hw.tints swt) (hd0.mono (fun _ _ h => hw.rd (Rd.old h)))) hw)) rfl (fun x89 => ?_)
         refine OW_q (q_pick_t rfl rfl) rfl ?_
         refine aO ?_
         refine nx2 ?_
         refine CW_ret ?_
         refine ret1 Try.results7 rfl (fun w hw => ?_)
         exact ⟨by simp [hb2], hw.sub .nil⟩
       exact absurd hg86 (by simp [hb1]) --stop
     exact absurd hg83 (by simp [hy2]) --stop
   exact absurd hg78 (by simp [hy1]) --stop
 exact absurd hg75 (by simp [hF1]) --stop

end Go.Sy
