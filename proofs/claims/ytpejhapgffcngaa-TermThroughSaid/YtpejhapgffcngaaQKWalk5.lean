/- TermThrough: the law's walk, by hand. -/
import Derived.Test.YtpejhapgffcngaaXShort
import Derived.Test.YtpejhapgffcngaaQKLaw5
import Derived.Deep.DeepMust
set_option linter.unusedVariables false
set_option linter.unusedSimpArgs false
namespace Go.Proofs.Ytpejhapgffcngaa.QK
open Go.RowKit Go.Proofs.YtpejhapgffcngaaW.PrintWords Go.Proofs.YtpejhapgffcngaaW.PrintLast Go.Proofs.YtpejhapgffcngaaW.PrintMore
inductive Go5 (k : Nat) (t v u : S27) : Bool → Prop
 | c0  (h0 : Aside0 (touchstonelaw5_Light.f k t.f0 t.f1 t.f2 t.f3 t.f4 300 = some false)) : Go5 k t v u true
 | c1 (h0 : Aside0 (touchstonelaw5_Light.f k t.f0 t.f1 t.f2 t.f3 t.f4 300 = some true)) (h1 : Aside0 (touchstonelaw5_Light.f k v.f0 v.f1 v.f2 v.f3 v.f4 60 = some false)) : Go5 k t v u true
 | c2 (h0 : Aside0 (touchstonelaw5_Light.f k t.f0 t.f1 t.f2 t.f3 t.f4 300 = some true)) (h1 : Aside0 (touchstonelaw5_Light.f k v.f0 v.f1 v.f2 v.f3 v.f4 60 = some true)) (h2 : Aside0 (touchstonelaw5_Light.f k u.f0 u.f1 u.f2 u.f3 u.f4 60 = some false)) : Go5 k t v u true
 | c3 (h0 : Aside0 (touchstonelaw5_Light.f k t.f0 t.f1 t.f2 t.f3 t.f4 300 = some true)) (h1 : Aside0 (touchstonelaw5_Light.f k v.f0 v.f1 v.f2 v.f3 v.f4 60 = some true)) (h2 : Aside0 (touchstonelaw5_Light.f k u.f0 u.f1 u.f2 u.f3 u.f4 60 = some true)) (h3 : Aside0 (touchstonelaw5_far.f k t.f0 t.f1 t.f2 t.f3 t.f4 = some true)) : Go5 k t v u true
 | c4 (h0 : Aside0 (touchstonelaw5_Light.f k t.f0 t.f1 t.f2 t.f3 t.f4 300 = some true)) (h1 : Aside0 (touchstonelaw5_Light.f k v.f0 v.f1 v.f2 v.f3 v.f4 60 = some true)) (h2 : Aside0 (touchstonelaw5_Light.f k u.f0 u.f1 u.f2 u.f3 u.f4 60 = some true)) (h3 : Aside0 (touchstonelaw5_far.f k t.f0 t.f1 t.f2 t.f3 t.f4 = some false)) (h4 : Aside0 (touchstonelaw5_far.f k v.f0 v.f1 v.f2 v.f3 v.f4 = some true)) : Go5 k t v u true
 | c5 (b : Bool) (h0 : Aside0 (touchstonelaw5_Light.f k t.f0 t.f1 t.f2 t.f3 t.f4 300 = some true)) (h1 : Aside0 (touchstonelaw5_Light.f k v.f0 v.f1 v.f2 v.f3 v.f4 60 = some true)) (h2 : Aside0 (touchstonelaw5_Light.f k u.f0 u.f1 u.f2 u.f3 u.f4 60 = some true)) (h3 : Aside0 (touchstonelaw5_far.f k t.f0 t.f1 t.f2 t.f3 t.f4 = some false)) (h4 : Aside0 (touchstonelaw5_far.f k v.f0 v.f1 v.f2 v.f3 v.f4 = some false)) (h5 : Aside0 (touchstonelaw5_far.f k u.f0 u.f1 u.f2 u.f3 u.f4 = some b)) : Go5 k t v u b
structure Res5 (k : Nat) (t v u p a i c l d e : S27) : Prop where
 hp : term_Put.f k t.f0 t.f1 t.f2 t.f3 t.f4 v.f0 v.f1 v.f2 v.f3 v.f4 = some (tup p)
 ha : term_Put.f k p.f0 p.f1 p.f2 p.f3 p.f4 u.f0 u.f1 u.f2 u.f3 u.f4 = some (tup a)
 hi : term_Put.f k v.f0 v.f1 v.f2 v.f3 v.f4 u.f0 u.f1 u.f2 u.f3 u.f4 = some (tup i)
 hc : touchstoneref5_Copy.f k t.f0 t.f1 t.f2 t.f3 t.f4 = some (tup c)
 cw : ∃ B, WhB B c
 cs : szT c ≤ 1073741824
 hl : term_Lift.f k u.f0 u.f1 u.f2 u.f3 u.f4 1 0 = some (tup l)
 hd : term_Put.f k (swT c 0).f0 (swT c 0).f1 (swT c 0).f2 (swT c 0).f3 (swT c 0).f4 l.f0 l.f1 l.f2 l.f3 l.f4 = some (tup d)
 he : term_Put.f k d.f0 d.f1 d.f2 d.f3 d.f4 i.f0 i.f1 i.f2 i.f3 i.f4 = some (tup e)
 hq : touchstoneref5_Equal.f k a.f0 a.f1 a.f2 a.f3 a.f4 e.f0 e.f1 e.f2 e.f3 e.f4 = some true
set_option maxHeartbeats 8000000 in
set_option maxRecDepth 100000 in
theorem through.walk (k : Nat) (Z : LZ) (t v u : S27) (b : Bool) (w : World) (hct : CT w Z.t3 Z.tc3 Z.t4 Z.tc4 t) (hcv : CT w Z.v3 Z.vc3 Z.v4 Z.vc4 v) (hcu : CT w Z.u3 Z.uc3 Z.u4 Z.uc4 u) (hbg : touchstonelaw5_begun.f k = some true) (hG : Go5 k t v u b) (hR : b = false → ∃ p a i c l d e : S27, Res5 k t v u p a i c l d e) :
  Calls Try.prog 9 #[.agg #[.int .i64 t.f0, .int .i64 t.f1, .string t.f2, .slice Z.t3 t.f3.length Z.tc3, .slice Z.t4 t.f4.length Z.tc4], .agg #[.int .i64 v.f0, .int .i64 v.f1, .string v.f2, .slice Z.v3 v.f3.length Z.vc3, .slice Z.v4 v.f4.length Z.vc4], .agg #[.int .i64 u.f0, .int .i64 u.f1, .string u.f2, .slice Z.u3 u.f3.length Z.uc3, .slice Z.u4 u.f4.length Z.uc4]] w fun e w' => e = .returned (.bool true) ∧ Below w.heap.size w w' := by
 have hu27 := Try.underlying27
 have Ct := aS hct
 have Cv := aS hcv
 have Cu := aS hcu
 have HBG := aS hbg
 have HG := aS hG
 have HR := aS hR
 have HB := aS (Below.refl w.heap.size w)
 clear hct hcv hcu hbg hG hR
 go_enter Try.func9, Try.ntmps9
 go_upto_region 3 with (first | ((with_reducible refine gate_dst (N := 3) rfl ?_); refine box_event ?hg (N := 3) ?hd (cs := #[.int .i64 t.f0, .int .i64 t.f1, .string t.f2, .slice Z.t3 t.f3.length Z.tc3, .slice Z.t4 t.f4.length Z.tc4]) (t := 27) ?hr ?_; (case hd => rfl); (case hg => rfl); (case hr => first | (go_simp; done) | (go_simp; rfl)); intro g3 hg3 w3 hbox hb; have X3 : Aside0 (BX w3 g3 Z.t3 Z.tc3 Z.t4 Z.tc4 t) := ⟨⟨hbox⟩⟩; have HB' := aS (below_step (by repeat (first | (with_reducible exact Below.refl _ _) | (with_reducible exact HB.out) | apply below_alloc | apply pw_below_drewN | apply below_drew1)) hb); clear HB; have HB := HB'; clear HB'; have GE3 : Aside0 (w.heap.size ≤ g3) := ⟨by rw [hg3]; exact below_size (w := w) bs_⟩; clear hg3 hbox hb) | ((with_reducible refine gate_dst (N := 4) rfl ?_); refine box_event ?hg (N := 4) ?hd (cs := #[.int .i64 v.f0, .int .i64 v.f1, .string v.f2, .slice Z.v3 v.f3.length Z.vc3, .slice Z.v4 v.f4.length Z.vc4]) (t := 27) ?hr ?_; (case hd => rfl); (case hg => rfl); (case hr => first | (go_simp; done) | (go_simp; rfl)); intro g4 hg4 w4 hbox hb; have X4 : Aside0 (BX w4 g4 Z.v3 Z.vc3 Z.v4 Z.vc4 v) := ⟨⟨hbox⟩⟩; have hbs := below_step bs_ hb; have X3' := aS (X3.out.below hbs); clear X3; have X3 := X3'; clear X3'; have GE4 : Aside0 (w.heap.size ≤ g4) := ⟨by rw [hg4]; exact below_size (w := w) (by repeat (first | (with_reducible exact Below.refl _ _) | (with_reducible exact HB.out) | apply below_alloc | apply pw_below_drewN | apply below_drew1))⟩; have HB' := aS (below_step HB.out hbs); clear HB; have HB := HB'; clear HB' hbs; clear hg4 hbox hb) | ((with_reducible refine gate_dst (N := 5) rfl ?_); refine box_event ?hg (N := 5) ?hd (cs := #[.int .i64 u.f0, .int .i64 u.f1, .string u.f2, .slice Z.u3 u.f3.length Z.uc3, .slice Z.u4 u.f4.length Z.uc4]) (t := 27) ?hr ?_; (case hd => rfl); (case hg => rfl); (case hr => first | (go_simp; done) | (go_simp; rfl)); intro g5 hg5 w5 hbox hb; have X5 : Aside0 (BX w5 g5 Z.u3 Z.uc3 Z.u4 Z.uc4 u) := ⟨⟨hbox⟩⟩; have hbs := below_step bs_ hb; have GE5 : Aside0 (w.heap.size ≤ g5) := ⟨by rw [hg5]; exact below_size (w := w) (by repeat (first | (with_reducible exact Below.refl _ _) | (with_reducible exact HB.out) | apply below_alloc | apply pw_below_drewN | apply below_drew1))⟩; have HT : Aside0 (TW w Z t v u g3 g4 g5 w5) := ⟨⟨below_step HB.out hbs, X3.out.below hbs, X4.out.below hbs, X5.out⟩⟩; clear X3 X4 X5 HB hbs; clear hg5 hbox hb) | (go_at_call 38; (with_reducible refine (touchstonelaw5_begun.calls k true _ HBG.out).mono ?_); rintro e w6 ⟨rfl, hb⟩; replace HT := aS (TW.step (HT.out.step bs_) hb); clear hb; ))
 (try simp only [Act.put, List.setIfInBounds_toArray, List.set_cons_zero, List.set_cons_succ])
 go_cut [36] (fun v36 wc => v36 = .bool b ∧ Aside0 (TW w Z t v u g3 g4 g5 wc))
 case first =>
  have G := HG.out
  clear HG HR
  obtain ⟨y30_, y31_, y32_, y33_, y34_⟩ := HT.out.b3.cells
  obtain ⟨y40_, y41_, y42_, y43_, y44_⟩ := HT.out.b4.cells
  obtain ⟨y50_, y51_, y52_, y53_, y54_⟩ := HT.out.b5.cells
  cases G with
  | c0 h0 =>
   go_wp2_with (first | (go_at_call 39; (with_reducible refine (light_c k (Ct.out.below (below_step HT.out.below bs_)) h0.out).mono ?_); rintro e wz0 ⟨rfl, hb⟩; clear y30_ y31_ y32_ y33_ y34_ y40_ y41_ y42_ y43_ y44_ y50_ y51_ y52_ y53_ y54_; replace HT := aS (TW.step (HT.out.step bs_) hb); clear hb; obtain ⟨y30_, y31_, y32_, y33_, y34_⟩ := HT.out.b3.cells; obtain ⟨y40_, y41_, y42_, y43_, y44_⟩ := HT.out.b4.cells; obtain ⟨y50_, y51_, y52_, y53_, y54_⟩ := HT.out.b5.cells))
   go_meet
   case rel => exact ⟨rfl, ⟨(HT.out.step bs_)⟩⟩
  | c1 h0 h1 =>
   go_wp2_with (first | (go_at_call 39; (with_reducible refine (light_c k (Ct.out.below (below_step HT.out.below bs_)) h0.out).mono ?_); rintro e wz0 ⟨rfl, hb⟩; clear y30_ y31_ y32_ y33_ y34_ y40_ y41_ y42_ y43_ y44_ y50_ y51_ y52_ y53_ y54_; replace HT := aS (TW.step (HT.out.step bs_) hb); clear hb; obtain ⟨y30_, y31_, y32_, y33_, y34_⟩ := HT.out.b3.cells; obtain ⟨y40_, y41_, y42_, y43_, y44_⟩ := HT.out.b4.cells; obtain ⟨y50_, y51_, y52_, y53_, y54_⟩ := HT.out.b5.cells) | (go_at_call 39; (with_reducible refine (light_c k (Cv.out.below (below_step HT.out.below bs_)) h1.out).mono ?_); rintro e wz1 ⟨rfl, hb⟩; clear y30_ y31_ y32_ y33_ y34_ y40_ y41_ y42_ y43_ y44_ y50_ y51_ y52_ y53_ y54_; replace HT := aS (TW.step (HT.out.step bs_) hb); clear hb; obtain ⟨y30_, y31_, y32_, y33_, y34_⟩ := HT.out.b3.cells; obtain ⟨y40_, y41_, y42_, y43_, y44_⟩ := HT.out.b4.cells; obtain ⟨y50_, y51_, y52_, y53_, y54_⟩ := HT.out.b5.cells))
   go_meet
   case rel => exact ⟨rfl, ⟨(HT.out.step bs_)⟩⟩
  | c2 h0 h1 h2 =>
   go_wp2_with (first | (go_at_call 39; (with_reducible refine (light_c k (Ct.out.below (below_step HT.out.below bs_)) h0.out).mono ?_); rintro e wz0 ⟨rfl, hb⟩; clear y30_ y31_ y32_ y33_ y34_ y40_ y41_ y42_ y43_ y44_ y50_ y51_ y52_ y53_ y54_; replace HT := aS (TW.step (HT.out.step bs_) hb); clear hb; obtain ⟨y30_, y31_, y32_, y33_, y34_⟩ := HT.out.b3.cells; obtain ⟨y40_, y41_, y42_, y43_, y44_⟩ := HT.out.b4.cells; obtain ⟨y50_, y51_, y52_, y53_, y54_⟩ := HT.out.b5.cells) | (go_at_call 39; (with_reducible refine (light_c k (Cv.out.below (below_step HT.out.below bs_)) h1.out).mono ?_); rintro e wz1 ⟨rfl, hb⟩; clear y30_ y31_ y32_ y33_ y34_ y40_ y41_ y42_ y43_ y44_ y50_ y51_ y52_ y53_ y54_; replace HT := aS (TW.step (HT.out.step bs_) hb); clear hb; obtain ⟨y30_, y31_, y32_, y33_, y34_⟩ := HT.out.b3.cells; obtain ⟨y40_, y41_, y42_, y43_, y44_⟩ := HT.out.b4.cells; obtain ⟨y50_, y51_, y52_, y53_, y54_⟩ := HT.out.b5.cells) | (go_at_call 39; (with_reducible refine (light_c k (Cu.out.below (below_step HT.out.below bs_)) h2.out).mono ?_); rintro e wz2 ⟨rfl, hb⟩; clear y30_ y31_ y32_ y33_ y34_ y40_ y41_ y42_ y43_ y44_ y50_ y51_ y52_ y53_ y54_; replace HT := aS (TW.step (HT.out.step bs_) hb); clear hb; obtain ⟨y30_, y31_, y32_, y33_, y34_⟩ := HT.out.b3.cells; obtain ⟨y40_, y41_, y42_, y43_, y44_⟩ := HT.out.b4.cells; obtain ⟨y50_, y51_, y52_, y53_, y54_⟩ := HT.out.b5.cells))
   go_meet
   case rel => exact ⟨rfl, ⟨(HT.out.step bs_)⟩⟩
  | c3 h0 h1 h2 h3 =>
   go_wp2_with (first | (go_at_call 39; (with_reducible refine (light_c k (Ct.out.below (below_step HT.out.below bs_)) h0.out).mono ?_); rintro e wz0 ⟨rfl, hb⟩; clear y30_ y31_ y32_ y33_ y34_ y40_ y41_ y42_ y43_ y44_ y50_ y51_ y52_ y53_ y54_; replace HT := aS (TW.step (HT.out.step bs_) hb); clear hb; obtain ⟨y30_, y31_, y32_, y33_, y34_⟩ := HT.out.b3.cells; obtain ⟨y40_, y41_, y42_, y43_, y44_⟩ := HT.out.b4.cells; obtain ⟨y50_, y51_, y52_, y53_, y54_⟩ := HT.out.b5.cells) | (go_at_call 39; (with_reducible refine (light_c k (Cv.out.below (below_step HT.out.below bs_)) h1.out).mono ?_); rintro e wz1 ⟨rfl, hb⟩; clear y30_ y31_ y32_ y33_ y34_ y40_ y41_ y42_ y43_ y44_ y50_ y51_ y52_ y53_ y54_; replace HT := aS (TW.step (HT.out.step bs_) hb); clear hb; obtain ⟨y30_, y31_, y32_, y33_, y34_⟩ := HT.out.b3.cells; obtain ⟨y40_, y41_, y42_, y43_, y44_⟩ := HT.out.b4.cells; obtain ⟨y50_, y51_, y52_, y53_, y54_⟩ := HT.out.b5.cells) | (go_at_call 39; (with_reducible refine (light_c k (Cu.out.below (below_step HT.out.below bs_)) h2.out).mono ?_); rintro e wz2 ⟨rfl, hb⟩; clear y30_ y31_ y32_ y33_ y34_ y40_ y41_ y42_ y43_ y44_ y50_ y51_ y52_ y53_ y54_; replace HT := aS (TW.step (HT.out.step bs_) hb); clear hb; obtain ⟨y30_, y31_, y32_, y33_, y34_⟩ := HT.out.b3.cells; obtain ⟨y40_, y41_, y42_, y43_, y44_⟩ := HT.out.b4.cells; obtain ⟨y50_, y51_, y52_, y53_, y54_⟩ := HT.out.b5.cells) | (go_at_call 40; (with_reducible refine (far_c k (Ct.out.below (below_step HT.out.below bs_)) h3.out).mono ?_); rintro e wz3 ⟨rfl, hb⟩; clear y30_ y31_ y32_ y33_ y34_ y40_ y41_ y42_ y43_ y44_ y50_ y51_ y52_ y53_ y54_; replace HT := aS (TW.step (HT.out.step bs_) hb); clear hb; obtain ⟨y30_, y31_, y32_, y33_, y34_⟩ := HT.out.b3.cells; obtain ⟨y40_, y41_, y42_, y43_, y44_⟩ := HT.out.b4.cells; obtain ⟨y50_, y51_, y52_, y53_, y54_⟩ := HT.out.b5.cells))
   go_meet
   case rel => exact ⟨rfl, ⟨(HT.out.step bs_)⟩⟩
  | c4 h0 h1 h2 h3 h4 =>
   go_wp2_with (first | (go_at_call 39; (with_reducible refine (light_c k (Ct.out.below (below_step HT.out.below bs_)) h0.out).mono ?_); rintro e wz0 ⟨rfl, hb⟩; clear y30_ y31_ y32_ y33_ y34_ y40_ y41_ y42_ y43_ y44_ y50_ y51_ y52_ y53_ y54_; replace HT := aS (TW.step (HT.out.step bs_) hb); clear hb; obtain ⟨y30_, y31_, y32_, y33_, y34_⟩ := HT.out.b3.cells; obtain ⟨y40_, y41_, y42_, y43_, y44_⟩ := HT.out.b4.cells; obtain ⟨y50_, y51_, y52_, y53_, y54_⟩ := HT.out.b5.cells) | (go_at_call 39; (with_reducible refine (light_c k (Cv.out.below (below_step HT.out.below bs_)) h1.out).mono ?_); rintro e wz1 ⟨rfl, hb⟩; clear y30_ y31_ y32_ y33_ y34_ y40_ y41_ y42_ y43_ y44_ y50_ y51_ y52_ y53_ y54_; replace HT := aS (TW.step (HT.out.step bs_) hb); clear hb; obtain ⟨y30_, y31_, y32_, y33_, y34_⟩ := HT.out.b3.cells; obtain ⟨y40_, y41_, y42_, y43_, y44_⟩ := HT.out.b4.cells; obtain ⟨y50_, y51_, y52_, y53_, y54_⟩ := HT.out.b5.cells) | (go_at_call 39; (with_reducible refine (light_c k (Cu.out.below (below_step HT.out.below bs_)) h2.out).mono ?_); rintro e wz2 ⟨rfl, hb⟩; clear y30_ y31_ y32_ y33_ y34_ y40_ y41_ y42_ y43_ y44_ y50_ y51_ y52_ y53_ y54_; replace HT := aS (TW.step (HT.out.step bs_) hb); clear hb; obtain ⟨y30_, y31_, y32_, y33_, y34_⟩ := HT.out.b3.cells; obtain ⟨y40_, y41_, y42_, y43_, y44_⟩ := HT.out.b4.cells; obtain ⟨y50_, y51_, y52_, y53_, y54_⟩ := HT.out.b5.cells) | (go_at_call 40; (with_reducible refine (far_c k (Ct.out.below (below_step HT.out.below bs_)) h3.out).mono ?_); rintro e wz3 ⟨rfl, hb⟩; clear y30_ y31_ y32_ y33_ y34_ y40_ y41_ y42_ y43_ y44_ y50_ y51_ y52_ y53_ y54_; replace HT := aS (TW.step (HT.out.step bs_) hb); clear hb; obtain ⟨y30_, y31_, y32_, y33_, y34_⟩ := HT.out.b3.cells; obtain ⟨y40_, y41_, y42_, y43_, y44_⟩ := HT.out.b4.cells; obtain ⟨y50_, y51_, y52_, y53_, y54_⟩ := HT.out.b5.cells) | (go_at_call 40; (with_reducible refine (far_c k (Cv.out.below (below_step HT.out.below bs_)) h4.out).mono ?_); rintro e wz4 ⟨rfl, hb⟩; clear y30_ y31_ y32_ y33_ y34_ y40_ y41_ y42_ y43_ y44_ y50_ y51_ y52_ y53_ y54_; replace HT := aS (TW.step (HT.out.step bs_) hb); clear hb; obtain ⟨y30_, y31_, y32_, y33_, y34_⟩ := HT.out.b3.cells; obtain ⟨y40_, y41_, y42_, y43_, y44_⟩ := HT.out.b4.cells; obtain ⟨y50_, y51_, y52_, y53_, y54_⟩ := HT.out.b5.cells))
   go_meet
   case rel => exact ⟨rfl, ⟨(HT.out.step bs_)⟩⟩
  | c5 b h0 h1 h2 h3 h4 h5 =>
   go_wp2_with (first | (go_at_call 39; (with_reducible refine (light_c k (Ct.out.below (below_step HT.out.below bs_)) h0.out).mono ?_); rintro e wz0 ⟨rfl, hb⟩; clear y30_ y31_ y32_ y33_ y34_ y40_ y41_ y42_ y43_ y44_ y50_ y51_ y52_ y53_ y54_; replace HT := aS (TW.step (HT.out.step bs_) hb); clear hb; obtain ⟨y30_, y31_, y32_, y33_, y34_⟩ := HT.out.b3.cells; obtain ⟨y40_, y41_, y42_, y43_, y44_⟩ := HT.out.b4.cells; obtain ⟨y50_, y51_, y52_, y53_, y54_⟩ := HT.out.b5.cells) | (go_at_call 39; (with_reducible refine (light_c k (Cv.out.below (below_step HT.out.below bs_)) h1.out).mono ?_); rintro e wz1 ⟨rfl, hb⟩; clear y30_ y31_ y32_ y33_ y34_ y40_ y41_ y42_ y43_ y44_ y50_ y51_ y52_ y53_ y54_; replace HT := aS (TW.step (HT.out.step bs_) hb); clear hb; obtain ⟨y30_, y31_, y32_, y33_, y34_⟩ := HT.out.b3.cells; obtain ⟨y40_, y41_, y42_, y43_, y44_⟩ := HT.out.b4.cells; obtain ⟨y50_, y51_, y52_, y53_, y54_⟩ := HT.out.b5.cells) | (go_at_call 39; (with_reducible refine (light_c k (Cu.out.below (below_step HT.out.below bs_)) h2.out).mono ?_); rintro e wz2 ⟨rfl, hb⟩; clear y30_ y31_ y32_ y33_ y34_ y40_ y41_ y42_ y43_ y44_ y50_ y51_ y52_ y53_ y54_; replace HT := aS (TW.step (HT.out.step bs_) hb); clear hb; obtain ⟨y30_, y31_, y32_, y33_, y34_⟩ := HT.out.b3.cells; obtain ⟨y40_, y41_, y42_, y43_, y44_⟩ := HT.out.b4.cells; obtain ⟨y50_, y51_, y52_, y53_, y54_⟩ := HT.out.b5.cells) | (go_at_call 40; (with_reducible refine (far_c k (Ct.out.below (below_step HT.out.below bs_)) h3.out).mono ?_); rintro e wz3 ⟨rfl, hb⟩; clear y30_ y31_ y32_ y33_ y34_ y40_ y41_ y42_ y43_ y44_ y50_ y51_ y52_ y53_ y54_; replace HT := aS (TW.step (HT.out.step bs_) hb); clear hb; obtain ⟨y30_, y31_, y32_, y33_, y34_⟩ := HT.out.b3.cells; obtain ⟨y40_, y41_, y42_, y43_, y44_⟩ := HT.out.b4.cells; obtain ⟨y50_, y51_, y52_, y53_, y54_⟩ := HT.out.b5.cells) | (go_at_call 40; (with_reducible refine (far_c k (Cv.out.below (below_step HT.out.below bs_)) h4.out).mono ?_); rintro e wz4 ⟨rfl, hb⟩; clear y30_ y31_ y32_ y33_ y34_ y40_ y41_ y42_ y43_ y44_ y50_ y51_ y52_ y53_ y54_; replace HT := aS (TW.step (HT.out.step bs_) hb); clear hb; obtain ⟨y30_, y31_, y32_, y33_, y34_⟩ := HT.out.b3.cells; obtain ⟨y40_, y41_, y42_, y43_, y44_⟩ := HT.out.b4.cells; obtain ⟨y50_, y51_, y52_, y53_, y54_⟩ := HT.out.b5.cells) | (go_at_call 40; (with_reducible refine (far_c k (Cu.out.below (below_step HT.out.below bs_)) h5.out).mono ?_); rintro e wz5 ⟨rfl, hb⟩; clear y30_ y31_ y32_ y33_ y34_ y40_ y41_ y42_ y43_ y44_ y50_ y51_ y52_ y53_ y54_; replace HT := aS (TW.step (HT.out.step bs_) hb); clear hb; obtain ⟨y30_, y31_, y32_, y33_, y34_⟩ := HT.out.b3.cells; obtain ⟨y40_, y41_, y42_, y43_, y44_⟩ := HT.out.b4.cells; obtain ⟨y50_, y51_, y52_, y53_, y54_⟩ := HT.out.b5.cells))
   go_meet
   case rel => exact ⟨rfl, ⟨(HT.out.step bs_)⟩⟩
 case rest =>
  obtain ⟨rfl, HT⟩ := hcut
  cases b with
  | true =>
   go_wp2
   go_ret
   exact ⟨rfl, (by repeat (first | (with_reducible exact HT.out.below) | apply pw_below_drewN | apply below_drew1))⟩
  | false =>
   obtain ⟨p, a, i, c, l, d, e, HRS⟩ := HR.out rfl
   have RS := aS HRS
   clear HRS HR HG
   go_upto_region 5 with (first | fail)
   (try simp only [Act.put, List.setIfInBounds_toArray, List.set_cons_zero, List.set_cons_succ])
   go_cut [7] (fun v7 wc => ∃ (ga ba ea : Nat) (A3 : Option Addr) (ac3 : Nat) (A4 : Option Addr) (ac4 : Nat), v7 = .pointer (some ⟨ga, 0, none⟩) ∧ Aside0 (TW w Z t v u g3 g4 g5 wc) ∧ Aside0 (BL wc ga ba ea A3 ac3 A4 ac4 a))
   case first =>
    refine wp_region_last_drew (S := (fun wz => TW w Z t v u g3 g4 g5 wz)) (ds := [6]) (by kernel_rfl) (by (try dsimp only); exact (HT.out.step (below_drew1 (Below.refl _ _)))) (fun hHeld => ?_)
    have hbs : Below wc.heap.size wc wc.drew := below_drew1 (Below.refl _ _)
    replace HT := aS (HT.out.step hbs)
    clear hbs
    refine wpAnyLast_take (i := 0) (oi := ({ dst := some 37, op := Go.Op.load 27 (Go.Operand.tmp 3), type := 27, pos := "law.go:174", after := #[], guard := none } : Oper)) (v := ?_) rfl (by kernel_rfl) (by kernel_rfl) (by kernel_rfl) (by kernel_rfl) (by kernel_rfl) (fun _ _ _ h => h) (Or.inl ⟨by rfl, ?_⟩) (by assumption) ?_
    rotate_left
    ·((intro w_ hSw; (try dsimp only at hSw); obtain ⟨s0_, s1_, s2_, s3_, s4_⟩ := (hSw).b3.cells; go_simp) <;> with_reducible rfl)
    try simp only [Act.put, List.setIfInBounds_toArray, List.set_cons_zero, List.set_cons_succ]
    refine wpAnyLast_take (i := 1) (oi := ({ dst := some 38, op := Go.Op.load 27 (Go.Operand.tmp 4), type := 27, pos := "law.go:174", after := #[], guard := none } : Oper)) (v := ?_) rfl (by kernel_rfl) (by kernel_rfl) (by kernel_rfl) (by kernel_rfl) (by kernel_rfl) (fun _ _ _ h => h) (Or.inl ⟨by rfl, ?_⟩) (by assumption) ?_
    rotate_left
    ·((intro w_ hSw; (try dsimp only at hSw); obtain ⟨s0_, s1_, s2_, s3_, s4_⟩ := (hSw).b4.cells; go_simp) <;> with_reducible rfl)
    try simp only [Act.put, List.setIfInBounds_toArray, List.set_cons_zero, List.set_cons_succ]
    refine wpAnyLast_take (i := 3) (oi := ({ dst := some 40, op := Go.Op.load 27 (Go.Operand.tmp 5), type := 27, pos := "law.go:174", after := #[], guard := none } : Oper)) (v := ?_) rfl (by kernel_rfl) (by kernel_rfl) (by kernel_rfl) (by kernel_rfl) (by kernel_rfl) (fun _ _ _ h => h) (Or.inl ⟨by rfl, ?_⟩) (by assumption) ?_
    rotate_left
    ·((intro w_ hSw; (try dsimp only at hSw); obtain ⟨s0_, s1_, s2_, s3_, s4_⟩ := (hSw).b5.cells; go_simp) <;> with_reducible rfl)
    try simp only [Act.put, List.setIfInBounds_toArray, List.set_cons_zero, List.set_cons_succ]
    refine wpAnyLast_ready (rs := [2, 5]) (by kernel_rfl) (by simp) (AllReadyL.cons (o := ({ dst := some 39, op := Go.Op.call { callee := Go.Callee.value (Go.Operand.func 42), args := #[Go.Operand.tmp 37, Go.Operand.tmp 38], argTypes := #[27, 27] }, type := 27, pos := "law.go:174", after := #[{ on := 0, ground := Go.Ground.data }, { on := 1, ground := Go.Ground.data }], guard := none } : Oper)) rfl (by decide) (fun K hK => ?c1_2) (AllReadyL.cons (o := ({ dst := some 7, op := Go.Op.alloc 27, type := 0, pos := "law.go:174", after := #[], guard := none } : Oper)) rfl (by decide) (fun K hK => ?c1_5) AllReadyL.nil))
    case c1_2 =>
     go_simp
     go_wp2_with (first | (go_at_call 42; go_must (with_reducible refine (put_c k (Ct.out.below (below_step HT.out.below bs_)) (Cv.out.below (below_step HT.out.below bs_)) RS.out.hp).mono ?_); rintro e wz ⟨P3, pc3, P4, pc4, rfl, hlv, hb⟩; have hbs := below_step bs_ hb; have Cp := aS hlv.now; clear hlv; replace HT := aS (HT.out.step hbs); clear hbs hb))
     refine hK.out _ _ (by (try dsimp only); exact HT.out) (fun hHeld2 => ?_)
     clear hK K hHeld
     have hHeld := hHeld2
     clear hHeld2
     try simp only [Act.put, List.setIfInBounds_toArray, List.set_cons_zero, List.set_cons_succ]
     refine wpAnyLast_ready (rs := [4, 5]) (by kernel_rfl) (by simp) (AllReadyL.cons (o := ({ dst := some 41, op := Go.Op.call { callee := Go.Callee.value (Go.Operand.func 42), args := #[Go.Operand.tmp 39, Go.Operand.tmp 40], argTypes := #[27, 27] }, type := 27, pos := "law.go:174", after := #[{ on := 2, ground := Go.Ground.data }, { on := 3, ground := Go.Ground.data }, { on := 2, ground := Go.Ground.chain }], guard := none } : Oper)) rfl (by decide) (fun K hK => ?c2_4) (AllReadyL.cons (o := ({ dst := some 7, op := Go.Op.alloc 27, type := 0, pos := "law.go:174", after := #[], guard := none } : Oper)) rfl (by decide) (fun K hK => ?c2_5) AllReadyL.nil))
     case c2_4 =>
      go_simp
      go_wp2_with (first | (go_at_call 42; go_must (with_reducible refine (put_c k (Cp.out.below bs_) (Cu.out.below (below_step HT.out.below bs_)) RS.out.ha).mono ?_); rintro e wz ⟨A3, ac3, A4, ac4, rfl, hlv, hb⟩; have hbs := below_step bs_ hb; obtain ⟨ba, ea, LVa, LEa, NAa⟩ : ∃ ba ea, Aside0 (LV ba ea wz A3 ac3 A4 ac4 a) ∧ Aside0 (ea ≤ wz.heap.size) ∧ True := ⟨_, _, ⟨hlv⟩, ⟨Nat.le_refl _⟩, trivial⟩; clear hlv; replace HT := aS (HT.out.step hbs); replace Cp := aS (Cp.out.below hbs); clear hbs hb))
      refine hK.out _ _ (by (try dsimp only); exact HT.out) (fun hHeld2 => ?_)
      clear hK K hHeld
      have hHeld := hHeld2
      clear hHeld2
      try simp only [Act.put, List.setIfInBounds_toArray, List.set_cons_zero, List.set_cons_succ]
      refine wpAnyLast_ready (rs := [5]) (by kernel_rfl) (by simp) (AllReadyL.cons (o := ({ dst := some 7, op := Go.Op.alloc 27, type := 0, pos := "law.go:174", after := #[], guard := none } : Oper)) rfl (by decide) (fun K hK => ?c3_5) AllReadyL.nil)
      case c3_5 =>
       refine box_step (by rfl) (N := 7) rfl (cs := #[.int .i64 0, .int .i64 0, .string (⟨#[]⟩ : ByteArray), .slice none 0 0, .slice none 0 0]) (t := 27) ?hr ?_
       case hr => first | (go_simp; done) | (go_simp; rfl)
       intro ga hg wz hbox hb
       have Bga := aS hbox
       have hbs := below_step bs_ hb
       have hT0 := HT.out.step bs_
       have Gga : Aside0 (w.heap.size ≤ ga ∧ g3 ≠ ga ∧ g4 ≠ ga ∧ g5 ≠ ga) := ⟨by rw [hg]; exact ⟨below_size hT0.below, Nat.ne_of_lt hT0.b3.lt, Nat.ne_of_lt hT0.b4.lt, Nat.ne_of_lt hT0.b5.lt⟩⟩
       clear hT0
       have NAa := aS (show ga < ba ∨ ea ≤ ga from Or.inr (by rw [hg]; exact Nat.le_trans LEa.out (below_size bs_)))
       replace LVa := aS (LVa.out.below hbs LEa.out)
       replace LEa := aS (Nat.le_trans LEa.out (below_size hbs))
       replace HT := aS (HT.out.step hbs)
       clear hbs hb hg hbox
       refine hK.out _ _ (by (try dsimp only); exact HT.out) (fun hHeld2 => ?_)
       clear hK K hHeld
       have hHeld := hHeld2
       clear hHeld2
       try simp only [Act.put, List.setIfInBounds_toArray, List.set_cons_zero, List.set_cons_succ]
       refine wpAnyLast_ready (rs := [6]) (by kernel_rfl) (by simp) (AllReadyL.cons_last (o := ({ dst := none, op := Go.Op.store 27 (Go.Operand.tmp 7) (Go.Operand.tmp 41), type := 0, pos := "law.go:174", after := #[{ on := 5, ground := Go.Ground.data }, { on := 4, ground := Go.Ground.data }, { on := 4, ground := Go.Ground.chain }, { on := 0, ground := Go.Ground.phase }, { on := 1, ground := Go.Ground.phase }, { on := 2, ground := Go.Ground.phase }, { on := 3, ground := Go.Ground.phase }, { on := 4, ground := Go.Ground.phase }, { on := 5, ground := Go.Ground.phase }], guard := none } : Oper)) rfl (by decide) (fun K hK => ?_) AllReadyL.nil)
       have hf := fill5' (x := a) (A3 := A3) (c3 := ac3) (A4 := A4) (c4 := ac4) Bga.out
       have Ha := aS (BL.fill hf.1 hf.2 LVa.out LEa.out NAa.out)
       have HT' := aS (HT.out.grown hf.2 Gga.out.1 Gga.out.2.1 Gga.out.2.2.1 Gga.out.2.2.2)
       clear HT
       have HT := HT'
       clear HT'
       clear hf
       refine store_step (by rfl) rfl 27 _ _ rfl (g := ga) (off := 0) (cur := #[.int .i64 0, .int .i64 0, .string (⟨#[]⟩ : ByteArray), .slice none 0 0, .slice none 0 0]) (e := 27) (u := .agg #[.int .i64 a.f0, .int .i64 a.f1, .string a.f2, .slice A3 a.f3.length ac3, .slice A4 a.f4.length ac4]) [.int .i64 a.f0, .int .i64 a.f1, .string a.f2, .slice A3 a.f3.length ac3, .slice A4 a.f4.length ac4] (by rfl) (by rfl) Bga.out rfl (by kernel_rfl) (by simp) (by intro q_ hq_; simp at hq_; rcases hq_ with rfl | rfl | rfl | rfl | rfl <;> rfl) ?_
       obtain ⟨wq, hwq⟩ : ∃ wq, wq = wz.setCells ga 0 [.int .i64 a.f0, .int .i64 a.f1, .string a.f2, .slice A3 a.f3.length ac3, .slice A4 a.f4.length ac4] := ⟨_, rfl⟩
       rw [← hwq] at Ha HT ⊢
       clear hwq
       refine hK.out _ _ ?_
       clear hK K
       try simp only [Act.put, List.setIfInBounds_toArray, List.set_cons_zero, List.set_cons_succ]
       refine wpAnyLast_done (by kernel_rfl) ?_ _
       with_reducible apply_assumption
       go_meet
       case rel => exact ⟨ga, ba, ea, A3, ac3, A4, ac4, rfl, HT, Ha⟩
     case c2_5 =>
      refine box_step (by rfl) (N := 7) rfl (cs := #[.int .i64 0, .int .i64 0, .string (⟨#[]⟩ : ByteArray), .slice none 0 0, .slice none 0 0]) (t := 27) ?hr ?_
      case hr => first | (go_simp; done) | (go_simp; rfl)
      intro ga hg wz hbox hb
      have Bga := aS hbox
      have hbs := below_step bs_ hb
      have hT0 := HT.out.step bs_
      have Gga : Aside0 (w.heap.size ≤ ga ∧ g3 ≠ ga ∧ g4 ≠ ga ∧ g5 ≠ ga) := ⟨by rw [hg]; exact ⟨below_size hT0.below, Nat.ne_of_lt hT0.b3.lt, Nat.ne_of_lt hT0.b4.lt, Nat.ne_of_lt hT0.b5.lt⟩⟩
      clear hT0
      replace HT := aS (HT.out.step hbs)
      replace Cp := aS (Cp.out.below hbs)
      clear hbs hb hg hbox
      refine hK.out _ _ (by (try dsimp only); exact HT.out) (fun hHeld2 => ?_)
      clear hK K hHeld
      have hHeld := hHeld2
      clear hHeld2
      try simp only [Act.put, List.setIfInBounds_toArray, List.set_cons_zero, List.set_cons_succ]
      refine wpAnyLast_ready (rs := [4]) (by kernel_rfl) (by simp) (AllReadyL.cons (o := ({ dst := some 41, op := Go.Op.call { callee := Go.Callee.value (Go.Operand.func 42), args := #[Go.Operand.tmp 39, Go.Operand.tmp 40], argTypes := #[27, 27] }, type := 27, pos := "law.go:174", after := #[{ on := 2, ground := Go.Ground.data }, { on := 3, ground := Go.Ground.data }, { on := 2, ground := Go.Ground.chain }], guard := none } : Oper)) rfl (by decide) (fun K hK => ?c4_4) AllReadyL.nil)
      case c4_4 =>
       go_simp
       go_wp2_with (first | (go_at_call 42; go_must (with_reducible refine (put_c k (Cp.out.below bs_) (Cu.out.below (below_step HT.out.below bs_)) RS.out.ha).mono ?_); rintro e wz ⟨A3, ac3, A4, ac4, rfl, hlv, hb⟩; have hbs := below_step bs_ hb; obtain ⟨ba, ea, LVa, LEa, NAa⟩ : ∃ ba ea, Aside0 (LV ba ea wz A3 ac3 A4 ac4 a) ∧ Aside0 (ea ≤ wz.heap.size) ∧ Aside0 (ga < ba ∨ ea ≤ ga) := ⟨_, _, ⟨hlv⟩, ⟨Nat.le_refl _⟩, ⟨Or.inl (Nat.lt_of_lt_of_le (blk_lt Bga.out) (below_size bs_))⟩⟩; clear hlv; replace HT := aS (HT.out.step hbs); replace Cp := aS (Cp.out.below hbs); replace Bga := aS (blk_below Bga.out hbs); clear hbs hb))
       refine hK.out _ _ (by (try dsimp only); exact HT.out) (fun hHeld2 => ?_)
       clear hK K hHeld
       have hHeld := hHeld2
       clear hHeld2
       try simp only [Act.put, List.setIfInBounds_toArray, List.set_cons_zero, List.set_cons_succ]
       refine wpAnyLast_ready (rs := [6]) (by kernel_rfl) (by simp) (AllReadyL.cons_last (o := ({ dst := none, op := Go.Op.store 27 (Go.Operand.tmp 7) (Go.Operand.tmp 41), type := 0, pos := "law.go:174", after := #[{ on := 5, ground := Go.Ground.data }, { on := 4, ground := Go.Ground.data }, { on := 4, ground := Go.Ground.chain }, { on := 0, ground := Go.Ground.phase }, { on := 1, ground := Go.Ground.phase }, { on := 2, ground := Go.Ground.phase }, { on := 3, ground := Go.Ground.phase }, { on := 4, ground := Go.Ground.phase }, { on := 5, ground := Go.Ground.phase }], guard := none } : Oper)) rfl (by decide) (fun K hK => ?_) AllReadyL.nil)
       have hf := fill5' (x := a) (A3 := A3) (c3 := ac3) (A4 := A4) (c4 := ac4) Bga.out
       have Ha := aS (BL.fill hf.1 hf.2 LVa.out LEa.out NAa.out)
       have HT' := aS (HT.out.grown hf.2 Gga.out.1 Gga.out.2.1 Gga.out.2.2.1 Gga.out.2.2.2)
       clear HT
       have HT := HT'
       clear HT'
       clear hf
       refine store_step (by rfl) rfl 27 _ _ rfl (g := ga) (off := 0) (cur := #[.int .i64 0, .int .i64 0, .string (⟨#[]⟩ : ByteArray), .slice none 0 0, .slice none 0 0]) (e := 27) (u := .agg #[.int .i64 a.f0, .int .i64 a.f1, .string a.f2, .slice A3 a.f3.length ac3, .slice A4 a.f4.length ac4]) [.int .i64 a.f0, .int .i64 a.f1, .string a.f2, .slice A3 a.f3.length ac3, .slice A4 a.f4.length ac4] (by rfl) (by rfl) Bga.out rfl (by kernel_rfl) (by simp) (by intro q_ hq_; simp at hq_; rcases hq_ with rfl | rfl | rfl | rfl | rfl <;> rfl) ?_
       obtain ⟨wq, hwq⟩ : ∃ wq, wq = wz.setCells ga 0 [.int .i64 a.f0, .int .i64 a.f1, .string a.f2, .slice A3 a.f3.length ac3, .slice A4 a.f4.length ac4] := ⟨_, rfl⟩
       rw [← hwq] at Ha HT ⊢
       clear hwq
       refine hK.out _ _ ?_
       clear hK K
       try simp only [Act.put, List.setIfInBounds_toArray, List.set_cons_zero, List.set_cons_succ]
       refine wpAnyLast_done (by kernel_rfl) ?_ _
       with_reducible apply_assumption
       go_meet
       case rel => exact ⟨ga, ba, ea, A3, ac3, A4, ac4, rfl, HT, Ha⟩
    case c1_5 =>
     refine box_step (by rfl) (N := 7) rfl (cs := #[.int .i64 0, .int .i64 0, .string (⟨#[]⟩ : ByteArray), .slice none 0 0, .slice none 0 0]) (t := 27) ?hr ?_
     case hr => first | (go_simp; done) | (go_simp; rfl)
     intro ga hg wz hbox hb
     have Bga := aS hbox
     have hbs := below_step bs_ hb
     have hT0 := HT.out.step bs_
     have Gga : Aside0 (w.heap.size ≤ ga ∧ g3 ≠ ga ∧ g4 ≠ ga ∧ g5 ≠ ga) := ⟨by rw [hg]; exact ⟨below_size hT0.below, Nat.ne_of_lt hT0.b3.lt, Nat.ne_of_lt hT0.b4.lt, Nat.ne_of_lt hT0.b5.lt⟩⟩
     clear hT0
     replace HT := aS (HT.out.step hbs)
     clear hbs hb hg hbox
     refine hK.out _ _ (by (try dsimp only); exact HT.out) (fun hHeld2 => ?_)
     clear hK K hHeld
     have hHeld := hHeld2
     clear hHeld2
     try simp only [Act.put, List.setIfInBounds_toArray, List.set_cons_zero, List.set_cons_succ]
     refine wpAnyLast_ready (rs := [2]) (by kernel_rfl) (by simp) (AllReadyL.cons (o := ({ dst := some 39, op := Go.Op.call { callee := Go.Callee.value (Go.Operand.func 42), args := #[Go.Operand.tmp 37, Go.Operand.tmp 38], argTypes := #[27, 27] }, type := 27, pos := "law.go:174", after := #[{ on := 0, ground := Go.Ground.data }, { on := 1, ground := Go.Ground.data }], guard := none } : Oper)) rfl (by decide) (fun K hK => ?c5_2) AllReadyL.nil)
     case c5_2 =>
      go_simp
      go_wp2_with (first | (go_at_call 42; go_must (with_reducible refine (put_c k (Ct.out.below (below_step HT.out.below bs_)) (Cv.out.below (below_step HT.out.below bs_)) RS.out.hp).mono ?_); rintro e wz ⟨P3, pc3, P4, pc4, rfl, hlv, hb⟩; have hbs := below_step bs_ hb; have Cp := aS hlv.now; clear hlv; replace HT := aS (HT.out.step hbs); replace Bga := aS (blk_below Bga.out hbs); clear hbs hb))
      refine hK.out _ _ (by (try dsimp only); exact HT.out) (fun hHeld2 => ?_)
      clear hK K hHeld
      have hHeld := hHeld2
      clear hHeld2
      try simp only [Act.put, List.setIfInBounds_toArray, List.set_cons_zero, List.set_cons_succ]
      refine wpAnyLast_ready (rs := [4]) (by kernel_rfl) (by simp) (AllReadyL.cons (o := ({ dst := some 41, op := Go.Op.call { callee := Go.Callee.value (Go.Operand.func 42), args := #[Go.Operand.tmp 39, Go.Operand.tmp 40], argTypes := #[27, 27] }, type := 27, pos := "law.go:174", after := #[{ on := 2, ground := Go.Ground.data }, { on := 3, ground := Go.Ground.data }, { on := 2, ground := Go.Ground.chain }], guard := none } : Oper)) rfl (by decide) (fun K hK => ?c6_4) AllReadyL.nil)
      case c6_4 =>
       go_simp
       go_wp2_with (first | (go_at_call 42; go_must (with_reducible refine (put_c k (Cp.out.below bs_) (Cu.out.below (below_step HT.out.below bs_)) RS.out.ha).mono ?_); rintro e wz ⟨A3, ac3, A4, ac4, rfl, hlv, hb⟩; have hbs := below_step bs_ hb; obtain ⟨ba, ea, LVa, LEa, NAa⟩ : ∃ ba ea, Aside0 (LV ba ea wz A3 ac3 A4 ac4 a) ∧ Aside0 (ea ≤ wz.heap.size) ∧ Aside0 (ga < ba ∨ ea ≤ ga) := ⟨_, _, ⟨hlv⟩, ⟨Nat.le_refl _⟩, ⟨Or.inl (Nat.lt_of_lt_of_le (blk_lt Bga.out) (below_size bs_))⟩⟩; clear hlv; replace HT := aS (HT.out.step hbs); replace Cp := aS (Cp.out.below hbs); replace Bga := aS (blk_below Bga.out hbs); clear hbs hb))
       refine hK.out _ _ (by (try dsimp only); exact HT.out) (fun hHeld2 => ?_)
       clear hK K hHeld
       have hHeld := hHeld2
       clear hHeld2
       try simp only [Act.put, List.setIfInBounds_toArray, List.set_cons_zero, List.set_cons_succ]
       refine wpAnyLast_ready (rs := [6]) (by kernel_rfl) (by simp) (AllReadyL.cons_last (o := ({ dst := none, op := Go.Op.store 27 (Go.Operand.tmp 7) (Go.Operand.tmp 41), type := 0, pos := "law.go:174", after := #[{ on := 5, ground := Go.Ground.data }, { on := 4, ground := Go.Ground.data }, { on := 4, ground := Go.Ground.chain }, { on := 0, ground := Go.Ground.phase }, { on := 1, ground := Go.Ground.phase }, { on := 2, ground := Go.Ground.phase }, { on := 3, ground := Go.Ground.phase }, { on := 4, ground := Go.Ground.phase }, { on := 5, ground := Go.Ground.phase }], guard := none } : Oper)) rfl (by decide) (fun K hK => ?_) AllReadyL.nil)
       have hf := fill5' (x := a) (A3 := A3) (c3 := ac3) (A4 := A4) (c4 := ac4) Bga.out
       have Ha := aS (BL.fill hf.1 hf.2 LVa.out LEa.out NAa.out)
       have HT' := aS (HT.out.grown hf.2 Gga.out.1 Gga.out.2.1 Gga.out.2.2.1 Gga.out.2.2.2)
       clear HT
       have HT := HT'
       clear HT'
       clear hf
       refine store_step (by rfl) rfl 27 _ _ rfl (g := ga) (off := 0) (cur := #[.int .i64 0, .int .i64 0, .string (⟨#[]⟩ : ByteArray), .slice none 0 0, .slice none 0 0]) (e := 27) (u := .agg #[.int .i64 a.f0, .int .i64 a.f1, .string a.f2, .slice A3 a.f3.length ac3, .slice A4 a.f4.length ac4]) [.int .i64 a.f0, .int .i64 a.f1, .string a.f2, .slice A3 a.f3.length ac3, .slice A4 a.f4.length ac4] (by rfl) (by rfl) Bga.out rfl (by kernel_rfl) (by simp) (by intro q_ hq_; simp at hq_; rcases hq_ with rfl | rfl | rfl | rfl | rfl <;> rfl) ?_
       obtain ⟨wq, hwq⟩ : ∃ wq, wq = wz.setCells ga 0 [.int .i64 a.f0, .int .i64 a.f1, .string a.f2, .slice A3 a.f3.length ac3, .slice A4 a.f4.length ac4] := ⟨_, rfl⟩
       rw [← hwq] at Ha HT ⊢
       clear hwq
       refine hK.out _ _ ?_
       clear hK K
       try simp only [Act.put, List.setIfInBounds_toArray, List.set_cons_zero, List.set_cons_succ]
       refine wpAnyLast_done (by kernel_rfl) ?_ _
       with_reducible apply_assumption
       go_meet
       case rel => exact ⟨ga, ba, ea, A3, ac3, A4, ac4, rfl, HT, Ha⟩
   case rest =>
    obtain ⟨ga, ba, ea, A3, ac3, A4, ac4, rfl, HT, Ha⟩ := hcut
    obtain ⟨y30_, y31_, y32_, y33_, y34_⟩ := HT.out.b3.cells
    obtain ⟨y40_, y41_, y42_, y43_, y44_⟩ := HT.out.b4.cells
    obtain ⟨y50_, y51_, y52_, y53_, y54_⟩ := HT.out.b5.cells
    go_upto_region 7 with (first | (go_at_call 42; go_must (with_reducible refine (put_c k (Cv.out.below (below_step HT.out.below bs_)) (Cu.out.below (below_step HT.out.below bs_)) RS.out.hi).mono ?_); rintro e wz ⟨I3, ic3, I4, ic4, rfl, hlv, hb⟩; have hbs := below_step bs_ hb; obtain ⟨bi, ei, LVi, LEi⟩ : ∃ bi ei, Aside0 (LV bi ei wz I3 ic3 I4 ic4 i) ∧ Aside0 (ei ≤ wz.heap.size) := ⟨_, _, ⟨hlv⟩, ⟨Nat.le_refl _⟩⟩; clear hlv; replace HT := aS (HT.out.step hbs); replace Ha := aS (Ha.out.step hbs); clear hbs hb) | ((with_reducible refine gate_dst (N := 8) rfl ?_); refine box_event ?hg (N := 8) ?hd (cs := #[.int .i64 0, .int .i64 0, .string (⟨#[]⟩ : ByteArray), .slice none 0 0, .slice none 0 0]) (t := 27) ?hr ?_; (case hd => rfl); (case hg => rfl); (case hr => first | (go_simp; done) | (go_simp; rfl)); intro gi hg wy hbox hb; have Bgi := aS hbox; have hbs := below_step bs_ hb; have hT0 := HT.out.step bs_; have Ggi : Aside0 (w.heap.size ≤ gi ∧ g3 ≠ gi ∧ g4 ≠ gi ∧ g5 ≠ gi) := ⟨by rw [hg]; exact ⟨below_size hT0.below, Nat.ne_of_lt hT0.b3.lt, Nat.ne_of_lt hT0.b4.lt, Nat.ne_of_lt hT0.b5.lt⟩⟩; clear hT0; have NAi := aS (show gi < bi ∨ ei ≤ gi from Or.inr (by rw [hg]; exact Nat.le_trans LEi.out (below_size (w := wz) bs_))); have NIa : Aside0 (ga ≠ gi ∧ ea ≤ gi) := ⟨by have hA := Ha.out.step bs_; rw [hg]; exact ⟨Nat.ne_of_lt hA.bx.lt, hA.le⟩⟩; have LVi' := aS (LVi.out.below hbs LEi.out); have LEi' := aS (Nat.le_trans LEi.out (below_size hbs)); clear LVi LEi; have LVi := LVi'; have LEi := LEi'; clear LVi' LEi'; replace HT := aS (HT.out.step hbs); replace Ha := aS (Ha.out.step hbs); clear hbs hb hg hbox; have hcr_0 := (blk_cell Bgi.out 0).trans (rfl : _ = some (Value.int .i64 0)); have hfr_0 := blk_frozen Bgi.out 0; have hcr_1 := (blk_cell Bgi.out 1).trans (rfl : _ = some (Value.int .i64 0)); have hfr_1 := blk_frozen Bgi.out 1; have hcr_2 := (blk_cell Bgi.out 2).trans (rfl : _ = some (Value.string (⟨#[]⟩ : ByteArray))); have hfr_2 := blk_frozen Bgi.out 2; have hcr_3 := (blk_cell Bgi.out 3).trans (rfl : _ = some (Value.slice none 0 0)); have hfr_3 := blk_frozen Bgi.out 3; have hcr_4 := (blk_cell Bgi.out 4).trans (rfl : _ = some (Value.slice none 0 0)); have hfr_4 := blk_frozen Bgi.out 4))
    (try simp only [Act.put, List.setIfInBounds_toArray, List.set_cons_zero, List.set_cons_succ])
    have hf := fill5 (x := i) (A3 := I3) (c3 := ic3) (A4 := I4) (c4 := ic4) Bgi.out
    have Hi := aS (BL.fill hf.1 hf.2 LVi.out LEi.out NAi.out)
    have HT' := aS (HT.out.grown hf.2 Ggi.out.1 Ggi.out.2.1 Ggi.out.2.2.1 Ggi.out.2.2.2)
    have Ha' := aS (Ha.out.grown hf.2 NIa.out.1 NIa.out.2)
    clear HT Ha
    have HT := HT'
    have Ha := Ha'
    clear HT' Ha' hf
    obtain ⟨wq, hwq⟩ : ∃ wq, wq = (((((wy.setCell ⟨gi, 0, none⟩ (.int .i64 i.f0)).setCell ⟨gi, 1, none⟩ (.int .i64 i.f1)).setCell ⟨gi, 2, none⟩ (.string i.f2)).setCell ⟨gi, 3, none⟩ (.slice I3 i.f3.length ic3)).setCell ⟨gi, 4, none⟩ (.slice I4 i.f4.length ic4)) := ⟨_, rfl⟩
    rw [← hwq] at Hi HT Ha ⊢
    clear hwq LVi LEi NAi Bgi Ggi NIa
    clear hcr_0 hfr_0 hcr_1 hfr_1 hcr_2 hfr_2 hcr_3 hfr_3 hcr_4 hfr_4
    clear y30_ y31_ y32_ y33_ y34_ y40_ y41_ y42_ y43_ y44_ y50_ y51_ y52_ y53_ y54_
    obtain ⟨B, cw⟩ := RS.out.cw
    have CW := aS cw
    clear cw
    go_cut [9] (fun v9 wc => ∃ (ge be ee : Nat) (E3 : Option Addr) (ec3 : Nat) (E4 : Option Addr) (ec4 : Nat), v9 = .pointer (some ⟨ge, 0, none⟩) ∧ Aside0 (TW w Z t v u g3 g4 g5 wc) ∧ Aside0 (BL wc ga ba ea A3 ac3 A4 ac4 a) ∧ Aside0 (BL wc ge be ee E3 ec3 E4 ec4 e))
    case first =>
     refine wp_region_last_drew (S := (fun wz => TW w Z t v u g3 g4 g5 wz ∧ BX wz gi I3 ic3 I4 ic4 i)) (ds := [8]) (by kernel_rfl) (by (try dsimp only); exact ⟨HT.out.step (below_drew1 (Below.refl _ _)), Hi.out.bx.below (below_drew1 (Below.refl _ _))⟩) (fun hHeld => ?_)
     have hbs : Below wq.heap.size wq wq.drew := below_drew1 (Below.refl _ _)
     replace HT := aS (HT.out.step hbs)
     replace Ha := aS (Ha.out.step hbs)
     replace Hi := aS (Hi.out.step hbs)
     clear hbs
     refine wpAnyLast_take (i := 0) (oi := ({ dst := some 45, op := Go.Op.load 27 (Go.Operand.tmp 3), type := 27, pos := "law.go:176", after := #[], guard := none } : Oper)) (v := ?_) rfl (by kernel_rfl) (by kernel_rfl) (by kernel_rfl) (by kernel_rfl) (by kernel_rfl) (fun _ _ _ h => h) (Or.inl ⟨by rfl, ?_⟩) (by assumption) ?_
     rotate_left
     ·((intro w_ hSw; (try dsimp only at hSw); obtain ⟨s0_, s1_, s2_, s3_, s4_⟩ := (hSw.1).b3.cells; go_simp) <;> with_reducible rfl)
     try simp only [Act.put, List.setIfInBounds_toArray, List.set_cons_zero, List.set_cons_succ]
     refine wpAnyLast_take (i := 2) (oi := ({ dst := some 47, op := Go.Op.load 27 (Go.Operand.tmp 5), type := 27, pos := "law.go:176", after := #[], guard := none } : Oper)) (v := ?_) rfl (by kernel_rfl) (by kernel_rfl) (by kernel_rfl) (by kernel_rfl) (by kernel_rfl) (fun _ _ _ h => h) (Or.inl ⟨by rfl, ?_⟩) (by assumption) ?_
     rotate_left
     ·((intro w_ hSw; (try dsimp only at hSw); obtain ⟨s0_, s1_, s2_, s3_, s4_⟩ := (hSw.1).b5.cells; go_simp) <;> with_reducible rfl)
     try simp only [Act.put, List.setIfInBounds_toArray, List.set_cons_zero, List.set_cons_succ]
     refine wpAnyLast_take (i := 5) (oi := ({ dst := some 50, op := Go.Op.load 27 (Go.Operand.tmp 8), type := 27, pos := "law.go:176", after := #[], guard := none } : Oper)) (v := ?_) rfl (by kernel_rfl) (by kernel_rfl) (by kernel_rfl) (by kernel_rfl) (by kernel_rfl) (fun _ _ _ h => h) (Or.inl ⟨by rfl, ?_⟩) (by assumption) ?_
     rotate_left
     ·((intro w_ hSw; (try dsimp only at hSw); obtain ⟨s0_, s1_, s2_, s3_, s4_⟩ := hSw.2.cells; go_simp) <;> with_reducible rfl)
     try simp only [Act.put, List.setIfInBounds_toArray, List.set_cons_zero, List.set_cons_succ]
     refine wpAnyLast_ready (rs := [1, 7]) (by kernel_rfl) (by simp) (AllReadyL.cons (o := ({ dst := some 46, op := Go.Op.call { callee := Go.Callee.value (Go.Operand.func 44), args := #[Go.Operand.tmp 45], argTypes := #[27] }, type := 27, pos := "law.go:176", after := #[{ on := 0, ground := Go.Ground.data }], guard := none } : Oper)) rfl (by decide) (fun K hK => ?c7_1) (AllReadyL.cons (o := ({ dst := some 9, op := Go.Op.alloc 27, type := 0, pos := "law.go:176", after := #[], guard := none } : Oper)) rfl (by decide) (fun K hK => ?c7_7) AllReadyL.nil))
     case c7_1 =>
      go_simp
      go_wp2_with (first | (go_at_call 44; go_must (with_reducible refine (swap_c k (Ct.out.below (below_step HT.out.below bs_)) CW.out RS.out.cs RS.out.hc).mono ?_); rintro e wz ⟨S3, sc3, S4, sc4, rfl, hlv, hb⟩; have hbs := below_step bs_ hb; have Cs := aS hlv; clear hlv; replace HT := aS (HT.out.step hbs); replace Ha := aS (Ha.out.step hbs); replace Hi := aS (Hi.out.step hbs); clear hbs hb))
      refine hK.out _ _ (by (try dsimp only); exact ⟨HT.out, Hi.out.bx⟩) (fun hHeld2 => ?_)
      clear hK K hHeld
      have hHeld := hHeld2
      clear hHeld2
      try simp only [Act.put, List.setIfInBounds_toArray, List.set_cons_zero, List.set_cons_succ]
      refine wpAnyLast_ready (rs := [3, 7]) (by kernel_rfl) (by simp) (AllReadyL.cons (o := ({ dst := some 48, op := Go.Op.call { callee := Go.Callee.value (Go.Operand.func 41), args := #[Go.Operand.tmp 47, Go.Operand.const (Go.Value.int Go.IntKind.i64 1), Go.Operand.const (Go.Value.int Go.IntKind.i64 0)], argTypes := #[27, 3, 3] }, type := 27, pos := "law.go:176", after := #[{ on := 2, ground := Go.Ground.data }, { on := 1, ground := Go.Ground.chain }], guard := none } : Oper)) rfl (by decide) (fun K hK => ?c8_3) (AllReadyL.cons (o := ({ dst := some 9, op := Go.Op.alloc 27, type := 0, pos := "law.go:176", after := #[], guard := none } : Oper)) rfl (by decide) (fun K hK => ?c8_7) AllReadyL.nil))
      case c8_3 =>
       go_simp
       go_wp2_with (first | (go_at_call 41; go_must (with_reducible refine (lift_c k (Cu.out.below (below_step HT.out.below bs_)) RS.out.hl).mono ?_); rintro e wz ⟨L3, lc3, L4, lc4, rfl, hlv, hb⟩; have hbs := below_step bs_ hb; have Cl := aS hlv.now; clear hlv; replace HT := aS (HT.out.step hbs); replace Ha := aS (Ha.out.step hbs); replace Hi := aS (Hi.out.step hbs); replace Cs := aS (Cs.out.below hbs); clear hbs hb))
       refine hK.out _ _ (by (try dsimp only); exact ⟨HT.out, Hi.out.bx⟩) (fun hHeld2 => ?_)
       clear hK K hHeld
       have hHeld := hHeld2
       clear hHeld2
       try simp only [Act.put, List.setIfInBounds_toArray, List.set_cons_zero, List.set_cons_succ]
       refine wpAnyLast_ready (rs := [4, 7]) (by kernel_rfl) (by simp) (AllReadyL.cons (o := ({ dst := some 49, op := Go.Op.call { callee := Go.Callee.value (Go.Operand.func 42), args := #[Go.Operand.tmp 46, Go.Operand.tmp 48], argTypes := #[27, 27] }, type := 27, pos := "law.go:176", after := #[{ on := 1, ground := Go.Ground.data }, { on := 3, ground := Go.Ground.data }, { on := 3, ground := Go.Ground.chain }], guard := none } : Oper)) rfl (by decide) (fun K hK => ?c9_4) (AllReadyL.cons (o := ({ dst := some 9, op := Go.Op.alloc 27, type := 0, pos := "law.go:176", after := #[], guard := none } : Oper)) rfl (by decide) (fun K hK => ?c9_7) AllReadyL.nil))
       case c9_4 =>
        go_simp
        go_wp2_with (first | (go_at_call 42; go_must (with_reducible refine (put_c k (Cs.out.below bs_) (Cl.out.below bs_) RS.out.hd).mono ?_); rintro e wz ⟨D3, dc3, D4, dc4, rfl, hlv, hb⟩; have hbs := below_step bs_ hb; have Cd := aS hlv.now; clear hlv Cs Cl; replace HT := aS (HT.out.step hbs); replace Ha := aS (Ha.out.step hbs); replace Hi := aS (Hi.out.step hbs); clear hbs hb))
        refine hK.out _ _ (by (try dsimp only); exact ⟨HT.out, Hi.out.bx⟩) (fun hHeld2 => ?_)
        clear hK K hHeld
        have hHeld := hHeld2
        clear hHeld2
        try simp only [Act.put, List.setIfInBounds_toArray, List.set_cons_zero, List.set_cons_succ]
        refine wpAnyLast_ready (rs := [6, 7]) (by kernel_rfl) (by simp) (AllReadyL.cons (o := ({ dst := some 51, op := Go.Op.call { callee := Go.Callee.value (Go.Operand.func 42), args := #[Go.Operand.tmp 49, Go.Operand.tmp 50], argTypes := #[27, 27] }, type := 27, pos := "law.go:176", after := #[{ on := 4, ground := Go.Ground.data }, { on := 5, ground := Go.Ground.data }, { on := 4, ground := Go.Ground.chain }], guard := none } : Oper)) rfl (by decide) (fun K hK => ?c10_6) (AllReadyL.cons (o := ({ dst := some 9, op := Go.Op.alloc 27, type := 0, pos := "law.go:176", after := #[], guard := none } : Oper)) rfl (by decide) (fun K hK => ?c10_7) AllReadyL.nil))
        case c10_6 =>
         go_simp
         go_wp2_with (first | (go_at_call 42; go_must (with_reducible refine (put_c k (Cd.out.below bs_) (Hi.out.lv.now.below bs_) RS.out.he).mono ?_); rintro e wz ⟨E3, ec3, E4, ec4, rfl, hlv, hb⟩; have hbs := below_step bs_ hb; obtain ⟨be, ee, LVe, LEe, NAe⟩ : ∃ be ee, Aside0 (LV be ee wz E3 ec3 E4 ec4 e) ∧ Aside0 (ee ≤ wz.heap.size) ∧ True := ⟨_, _, ⟨hlv⟩, ⟨Nat.le_refl _⟩, trivial⟩; clear hlv Cd; replace HT := aS (HT.out.step hbs); replace Ha := aS (Ha.out.step hbs); replace Hi := aS (Hi.out.step hbs); clear hbs hb))
         refine hK.out _ _ (by (try dsimp only); exact ⟨HT.out, Hi.out.bx⟩) (fun hHeld2 => ?_)
         clear hK K hHeld
         have hHeld := hHeld2
         clear hHeld2
         try simp only [Act.put, List.setIfInBounds_toArray, List.set_cons_zero, List.set_cons_succ]
         refine wpAnyLast_ready (rs := [7]) (by kernel_rfl) (by simp) (AllReadyL.cons (o := ({ dst := some 9, op := Go.Op.alloc 27, type := 0, pos := "law.go:176", after := #[], guard := none } : Oper)) rfl (by decide) (fun K hK => ?c11_7) AllReadyL.nil)
         case c11_7 =>
          refine box_step (by rfl) (N := 9) rfl (cs := #[.int .i64 0, .int .i64 0, .string (⟨#[]⟩ : ByteArray), .slice none 0 0, .slice none 0 0]) (t := 27) ?hr ?_
          case hr => first | (go_simp; done) | (go_simp; rfl)
          intro ge hg wz hbox hb
          have Bge := aS hbox
          have hbs := below_step bs_ hb
          have hT0 := HT.out.step bs_
          have Gge : Aside0 (w.heap.size ≤ ge ∧ g3 ≠ ge ∧ g4 ≠ ge ∧ g5 ≠ ge) := ⟨by rw [hg]; exact ⟨below_size hT0.below, Nat.ne_of_lt hT0.b3.lt, Nat.ne_of_lt hT0.b4.lt, Nat.ne_of_lt hT0.b5.lt⟩⟩
          clear hT0
          have NGa : Aside0 (ga ≠ ge ∧ ea ≤ ge) := ⟨by have hA := Ha.out.step bs_; rw [hg]; exact ⟨Nat.ne_of_lt hA.bx.lt, hA.le⟩⟩
          have NAe := aS (show ge < be ∨ ee ≤ ge from Or.inr (by rw [hg]; exact Nat.le_trans LEe.out (below_size bs_)))
          replace LVe := aS (LVe.out.below hbs LEe.out)
          replace LEe := aS (Nat.le_trans LEe.out (below_size hbs))
          replace HT := aS (HT.out.step hbs)
          replace Ha := aS (Ha.out.step hbs)
          replace Hi := aS (Hi.out.step hbs)
          clear hbs hb hg hbox
          refine hK.out _ _ (by (try dsimp only); exact ⟨HT.out, Hi.out.bx⟩) (fun hHeld2 => ?_)
          clear hK K hHeld
          have hHeld := hHeld2
          clear hHeld2
          try simp only [Act.put, List.setIfInBounds_toArray, List.set_cons_zero, List.set_cons_succ]
          refine wpAnyLast_ready (rs := [8]) (by kernel_rfl) (by simp) (AllReadyL.cons_last (o := ({ dst := none, op := Go.Op.store 27 (Go.Operand.tmp 9) (Go.Operand.tmp 51), type := 0, pos := "law.go:176", after := #[{ on := 7, ground := Go.Ground.data }, { on := 6, ground := Go.Ground.data }, { on := 6, ground := Go.Ground.chain }, { on := 0, ground := Go.Ground.phase }, { on := 1, ground := Go.Ground.phase }, { on := 2, ground := Go.Ground.phase }, { on := 3, ground := Go.Ground.phase }, { on := 4, ground := Go.Ground.phase }, { on := 5, ground := Go.Ground.phase }, { on := 6, ground := Go.Ground.phase }, { on := 7, ground := Go.Ground.phase }], guard := none } : Oper)) rfl (by decide) (fun K hK => ?_) AllReadyL.nil)
          have hf := fill5' (x := e) (A3 := E3) (c3 := ec3) (A4 := E4) (c4 := ec4) Bge.out
          have He := aS (BL.fill hf.1 hf.2 LVe.out LEe.out NAe.out)
          have HT' := aS (HT.out.grown hf.2 Gge.out.1 Gge.out.2.1 Gge.out.2.2.1 Gge.out.2.2.2)
          clear HT
          have HT := HT'
          clear HT'
          have Ha' := aS (Ha.out.grown hf.2 NGa.out.1 NGa.out.2)
          clear Ha Hi
          have Ha := Ha'
          clear Ha'
          clear hf
          refine store_step (by rfl) rfl 27 _ _ rfl (g := ge) (off := 0) (cur := #[.int .i64 0, .int .i64 0, .string (⟨#[]⟩ : ByteArray), .slice none 0 0, .slice none 0 0]) (e := 27) (u := .agg #[.int .i64 e.f0, .int .i64 e.f1, .string e.f2, .slice E3 e.f3.length ec3, .slice E4 e.f4.length ec4]) [.int .i64 e.f0, .int .i64 e.f1, .string e.f2, .slice E3 e.f3.length ec3, .slice E4 e.f4.length ec4] (by rfl) (by rfl) Bge.out rfl (by kernel_rfl) (by simp) (by intro q_ hq_; simp at hq_; rcases hq_ with rfl | rfl | rfl | rfl | rfl <;> rfl) ?_
          obtain ⟨wq, hwq⟩ : ∃ wq, wq = wz.setCells ge 0 [.int .i64 e.f0, .int .i64 e.f1, .string e.f2, .slice E3 e.f3.length ec3, .slice E4 e.f4.length ec4] := ⟨_, rfl⟩
          rw [← hwq] at He HT Ha ⊢
          clear hwq
          refine hK.out _ _ ?_
          clear hK K
          try simp only [Act.put, List.setIfInBounds_toArray, List.set_cons_zero, List.set_cons_succ]
          refine wpAnyLast_done (by kernel_rfl) ?_ _
          with_reducible apply_assumption
          go_meet
          case rel => exact ⟨ge, be, ee, E3, ec3, E4, ec4, rfl, HT, Ha, He⟩
        case c10_7 =>
         refine box_step (by rfl) (N := 9) rfl (cs := #[.int .i64 0, .int .i64 0, .string (⟨#[]⟩ : ByteArray), .slice none 0 0, .slice none 0 0]) (t := 27) ?hr ?_
         case hr => first | (go_simp; done) | (go_simp; rfl)
         intro ge hg wz hbox hb
         have Bge := aS hbox
         have hbs := below_step bs_ hb
         have hT0 := HT.out.step bs_
         have Gge : Aside0 (w.heap.size ≤ ge ∧ g3 ≠ ge ∧ g4 ≠ ge ∧ g5 ≠ ge) := ⟨by rw [hg]; exact ⟨below_size hT0.below, Nat.ne_of_lt hT0.b3.lt, Nat.ne_of_lt hT0.b4.lt, Nat.ne_of_lt hT0.b5.lt⟩⟩
         clear hT0
         have NGa : Aside0 (ga ≠ ge ∧ ea ≤ ge) := ⟨by have hA := Ha.out.step bs_; rw [hg]; exact ⟨Nat.ne_of_lt hA.bx.lt, hA.le⟩⟩
         replace HT := aS (HT.out.step hbs)
         replace Ha := aS (Ha.out.step hbs)
         replace Hi := aS (Hi.out.step hbs)
         replace Cd := aS (Cd.out.below hbs)
         clear hbs hb hg hbox
         refine hK.out _ _ (by (try dsimp only); exact ⟨HT.out, Hi.out.bx⟩) (fun hHeld2 => ?_)
         clear hK K hHeld
         have hHeld := hHeld2
         clear hHeld2
         try simp only [Act.put, List.setIfInBounds_toArray, List.set_cons_zero, List.set_cons_succ]
         refine wpAnyLast_ready (rs := [6]) (by kernel_rfl) (by simp) (AllReadyL.cons (o := ({ dst := some 51, op := Go.Op.call { callee := Go.Callee.value (Go.Operand.func 42), args := #[Go.Operand.tmp 49, Go.Operand.tmp 50], argTypes := #[27, 27] }, type := 27, pos := "law.go:176", after := #[{ on := 4, ground := Go.Ground.data }, { on := 5, ground := Go.Ground.data }, { on := 4, ground := Go.Ground.chain }], guard := none } : Oper)) rfl (by decide) (fun K hK => ?c12_6) AllReadyL.nil)
         case c12_6 =>
          go_simp
          go_wp2_with (first | (go_at_call 42; go_must (with_reducible refine (put_c k (Cd.out.below bs_) (Hi.out.lv.now.below bs_) RS.out.he).mono ?_); rintro e wz ⟨E3, ec3, E4, ec4, rfl, hlv, hb⟩; have hbs := below_step bs_ hb; obtain ⟨be, ee, LVe, LEe, NAe⟩ : ∃ be ee, Aside0 (LV be ee wz E3 ec3 E4 ec4 e) ∧ Aside0 (ee ≤ wz.heap.size) ∧ Aside0 (ge < be ∨ ee ≤ ge) := ⟨_, _, ⟨hlv⟩, ⟨Nat.le_refl _⟩, ⟨Or.inl (Nat.lt_of_lt_of_le (blk_lt Bge.out) (below_size bs_))⟩⟩; clear hlv Cd; replace HT := aS (HT.out.step hbs); replace Ha := aS (Ha.out.step hbs); replace Hi := aS (Hi.out.step hbs); replace Bge := aS (blk_below Bge.out hbs); clear hbs hb))
          refine hK.out _ _ (by (try dsimp only); exact ⟨HT.out, Hi.out.bx⟩) (fun hHeld2 => ?_)
          clear hK K hHeld
          have hHeld := hHeld2
          clear hHeld2
          try simp only [Act.put, List.setIfInBounds_toArray, List.set_cons_zero, List.set_cons_succ]
          refine wpAnyLast_ready (rs := [8]) (by kernel_rfl) (by simp) (AllReadyL.cons_last (o := ({ dst := none, op := Go.Op.store 27 (Go.Operand.tmp 9) (Go.Operand.tmp 51), type := 0, pos := "law.go:176", after := #[{ on := 7, ground := Go.Ground.data }, { on := 6, ground := Go.Ground.data }, { on := 6, ground := Go.Ground.chain }, { on := 0, ground := Go.Ground.phase }, { on := 1, ground := Go.Ground.phase }, { on := 2, ground := Go.Ground.phase }, { on := 3, ground := Go.Ground.phase }, { on := 4, ground := Go.Ground.phase }, { on := 5, ground := Go.Ground.phase }, { on := 6, ground := Go.Ground.phase }, { on := 7, ground := Go.Ground.phase }], guard := none } : Oper)) rfl (by decide) (fun K hK => ?_) AllReadyL.nil)
          have hf := fill5' (x := e) (A3 := E3) (c3 := ec3) (A4 := E4) (c4 := ec4) Bge.out
          have He := aS (BL.fill hf.1 hf.2 LVe.out LEe.out NAe.out)
          have HT' := aS (HT.out.grown hf.2 Gge.out.1 Gge.out.2.1 Gge.out.2.2.1 Gge.out.2.2.2)
          clear HT
          have HT := HT'
          clear HT'
          have Ha' := aS (Ha.out.grown hf.2 NGa.out.1 NGa.out.2)
          clear Ha Hi
          have Ha := Ha'
          clear Ha'
          clear hf
          refine store_step (by rfl) rfl 27 _ _ rfl (g := ge) (off := 0) (cur := #[.int .i64 0, .int .i64 0, .string (⟨#[]⟩ : ByteArray), .slice none 0 0, .slice none 0 0]) (e := 27) (u := .agg #[.int .i64 e.f0, .int .i64 e.f1, .string e.f2, .slice E3 e.f3.length ec3, .slice E4 e.f4.length ec4]) [.int .i64 e.f0, .int .i64 e.f1, .string e.f2, .slice E3 e.f3.length ec3, .slice E4 e.f4.length ec4] (by rfl) (by rfl) Bge.out rfl (by kernel_rfl) (by simp) (by intro q_ hq_; simp at hq_; rcases hq_ with rfl | rfl | rfl | rfl | rfl <;> rfl) ?_
          obtain ⟨wq, hwq⟩ : ∃ wq, wq = wz.setCells ge 0 [.int .i64 e.f0, .int .i64 e.f1, .string e.f2, .slice E3 e.f3.length ec3, .slice E4 e.f4.length ec4] := ⟨_, rfl⟩
          rw [← hwq] at He HT Ha ⊢
          clear hwq
          refine hK.out _ _ ?_
          clear hK K
          try simp only [Act.put, List.setIfInBounds_toArray, List.set_cons_zero, List.set_cons_succ]
          refine wpAnyLast_done (by kernel_rfl) ?_ _
          with_reducible apply_assumption
          go_meet
          case rel => exact ⟨ge, be, ee, E3, ec3, E4, ec4, rfl, HT, Ha, He⟩
       case c9_7 =>
        refine box_step (by rfl) (N := 9) rfl (cs := #[.int .i64 0, .int .i64 0, .string (⟨#[]⟩ : ByteArray), .slice none 0 0, .slice none 0 0]) (t := 27) ?hr ?_
        case hr => first | (go_simp; done) | (go_simp; rfl)
        intro ge hg wz hbox hb
        have Bge := aS hbox
        have hbs := below_step bs_ hb
        have hT0 := HT.out.step bs_
        have Gge : Aside0 (w.heap.size ≤ ge ∧ g3 ≠ ge ∧ g4 ≠ ge ∧ g5 ≠ ge) := ⟨by rw [hg]; exact ⟨below_size hT0.below, Nat.ne_of_lt hT0.b3.lt, Nat.ne_of_lt hT0.b4.lt, Nat.ne_of_lt hT0.b5.lt⟩⟩
        clear hT0
        have NGa : Aside0 (ga ≠ ge ∧ ea ≤ ge) := ⟨by have hA := Ha.out.step bs_; rw [hg]; exact ⟨Nat.ne_of_lt hA.bx.lt, hA.le⟩⟩
        replace HT := aS (HT.out.step hbs)
        replace Ha := aS (Ha.out.step hbs)
        replace Hi := aS (Hi.out.step hbs)
        replace Cs := aS (Cs.out.below hbs)
        replace Cl := aS (Cl.out.below hbs)
        clear hbs hb hg hbox
        refine hK.out _ _ (by (try dsimp only); exact ⟨HT.out, Hi.out.bx⟩) (fun hHeld2 => ?_)
        clear hK K hHeld
        have hHeld := hHeld2
        clear hHeld2
        try simp only [Act.put, List.setIfInBounds_toArray, List.set_cons_zero, List.set_cons_succ]
        refine wpAnyLast_ready (rs := [4]) (by kernel_rfl) (by simp) (AllReadyL.cons (o := ({ dst := some 49, op := Go.Op.call { callee := Go.Callee.value (Go.Operand.func 42), args := #[Go.Operand.tmp 46, Go.Operand.tmp 48], argTypes := #[27, 27] }, type := 27, pos := "law.go:176", after := #[{ on := 1, ground := Go.Ground.data }, { on := 3, ground := Go.Ground.data }, { on := 3, ground := Go.Ground.chain }], guard := none } : Oper)) rfl (by decide) (fun K hK => ?c13_4) AllReadyL.nil)
        case c13_4 =>
         go_simp
         go_wp2_with (first | (go_at_call 42; go_must (with_reducible refine (put_c k (Cs.out.below bs_) (Cl.out.below bs_) RS.out.hd).mono ?_); rintro e wz ⟨D3, dc3, D4, dc4, rfl, hlv, hb⟩; have hbs := below_step bs_ hb; have Cd := aS hlv.now; clear hlv Cs Cl; replace HT := aS (HT.out.step hbs); replace Ha := aS (Ha.out.step hbs); replace Hi := aS (Hi.out.step hbs); replace Bge := aS (blk_below Bge.out hbs); clear hbs hb))
         refine hK.out _ _ (by (try dsimp only); exact ⟨HT.out, Hi.out.bx⟩) (fun hHeld2 => ?_)
         clear hK K hHeld
         have hHeld := hHeld2
         clear hHeld2
         try simp only [Act.put, List.setIfInBounds_toArray, List.set_cons_zero, List.set_cons_succ]
         refine wpAnyLast_ready (rs := [6]) (by kernel_rfl) (by simp) (AllReadyL.cons (o := ({ dst := some 51, op := Go.Op.call { callee := Go.Callee.value (Go.Operand.func 42), args := #[Go.Operand.tmp 49, Go.Operand.tmp 50], argTypes := #[27, 27] }, type := 27, pos := "law.go:176", after := #[{ on := 4, ground := Go.Ground.data }, { on := 5, ground := Go.Ground.data }, { on := 4, ground := Go.Ground.chain }], guard := none } : Oper)) rfl (by decide) (fun K hK => ?c14_6) AllReadyL.nil)
         case c14_6 =>
          go_simp
          go_wp2_with (first | (go_at_call 42; go_must (with_reducible refine (put_c k (Cd.out.below bs_) (Hi.out.lv.now.below bs_) RS.out.he).mono ?_); rintro e wz ⟨E3, ec3, E4, ec4, rfl, hlv, hb⟩; have hbs := below_step bs_ hb; obtain ⟨be, ee, LVe, LEe, NAe⟩ : ∃ be ee, Aside0 (LV be ee wz E3 ec3 E4 ec4 e) ∧ Aside0 (ee ≤ wz.heap.size) ∧ Aside0 (ge < be ∨ ee ≤ ge) := ⟨_, _, ⟨hlv⟩, ⟨Nat.le_refl _⟩, ⟨Or.inl (Nat.lt_of_lt_of_le (blk_lt Bge.out) (below_size bs_))⟩⟩; clear hlv Cd; replace HT := aS (HT.out.step hbs); replace Ha := aS (Ha.out.step hbs); replace Hi := aS (Hi.out.step hbs); replace Bge := aS (blk_below Bge.out hbs); clear hbs hb))
          refine hK.out _ _ (by (try dsimp only); exact ⟨HT.out, Hi.out.bx⟩) (fun hHeld2 => ?_)
          clear hK K hHeld
          have hHeld := hHeld2
          clear hHeld2
          try simp only [Act.put, List.setIfInBounds_toArray, List.set_cons_zero, List.set_cons_succ]
          refine wpAnyLast_ready (rs := [8]) (by kernel_rfl) (by simp) (AllReadyL.cons_last (o := ({ dst := none, op := Go.Op.store 27 (Go.Operand.tmp 9) (Go.Operand.tmp 51), type := 0, pos := "law.go:176", after := #[{ on := 7, ground := Go.Ground.data }, { on := 6, ground := Go.Ground.data }, { on := 6, ground := Go.Ground.chain }, { on := 0, ground := Go.Ground.phase }, { on := 1, ground := Go.Ground.phase }, { on := 2, ground := Go.Ground.phase }, { on := 3, ground := Go.Ground.phase }, { on := 4, ground := Go.Ground.phase }, { on := 5, ground := Go.Ground.phase }, { on := 6, ground := Go.Ground.phase }, { on := 7, ground := Go.Ground.phase }], guard := none } : Oper)) rfl (by decide) (fun K hK => ?_) AllReadyL.nil)
          have hf := fill5' (x := e) (A3 := E3) (c3 := ec3) (A4 := E4) (c4 := ec4) Bge.out
          have He := aS (BL.fill hf.1 hf.2 LVe.out LEe.out NAe.out)
          have HT' := aS (HT.out.grown hf.2 Gge.out.1 Gge.out.2.1 Gge.out.2.2.1 Gge.out.2.2.2)
          clear HT
          have HT := HT'
          clear HT'
          have Ha' := aS (Ha.out.grown hf.2 NGa.out.1 NGa.out.2)
          clear Ha Hi
          have Ha := Ha'
          clear Ha'
          clear hf
          refine store_step (by rfl) rfl 27 _ _ rfl (g := ge) (off := 0) (cur := #[.int .i64 0, .int .i64 0, .string (⟨#[]⟩ : ByteArray), .slice none 0 0, .slice none 0 0]) (e := 27) (u := .agg #[.int .i64 e.f0, .int .i64 e.f1, .string e.f2, .slice E3 e.f3.length ec3, .slice E4 e.f4.length ec4]) [.int .i64 e.f0, .int .i64 e.f1, .string e.f2, .slice E3 e.f3.length ec3, .slice E4 e.f4.length ec4] (by rfl) (by rfl) Bge.out rfl (by kernel_rfl) (by simp) (by intro q_ hq_; simp at hq_; rcases hq_ with rfl | rfl | rfl | rfl | rfl <;> rfl) ?_
          obtain ⟨wq, hwq⟩ : ∃ wq, wq = wz.setCells ge 0 [.int .i64 e.f0, .int .i64 e.f1, .string e.f2, .slice E3 e.f3.length ec3, .slice E4 e.f4.length ec4] := ⟨_, rfl⟩
          rw [← hwq] at He HT Ha ⊢
          clear hwq
          refine hK.out _ _ ?_
          clear hK K
          try simp only [Act.put, List.setIfInBounds_toArray, List.set_cons_zero, List.set_cons_succ]
          refine wpAnyLast_done (by kernel_rfl) ?_ _
          with_reducible apply_assumption
          go_meet
          case rel => exact ⟨ge, be, ee, E3, ec3, E4, ec4, rfl, HT, Ha, He⟩
      case c8_7 =>
       refine box_step (by rfl) (N := 9) rfl (cs := #[.int .i64 0, .int .i64 0, .string (⟨#[]⟩ : ByteArray), .slice none 0 0, .slice none 0 0]) (t := 27) ?hr ?_
       case hr => first | (go_simp; done) | (go_simp; rfl)
       intro ge hg wz hbox hb
       have Bge := aS hbox
       have hbs := below_step bs_ hb
       have hT0 := HT.out.step bs_
       have Gge : Aside0 (w.heap.size ≤ ge ∧ g3 ≠ ge ∧ g4 ≠ ge ∧ g5 ≠ ge) := ⟨by rw [hg]; exact ⟨below_size hT0.below, Nat.ne_of_lt hT0.b3.lt, Nat.ne_of_lt hT0.b4.lt, Nat.ne_of_lt hT0.b5.lt⟩⟩
       clear hT0
       have NGa : Aside0 (ga ≠ ge ∧ ea ≤ ge) := ⟨by have hA := Ha.out.step bs_; rw [hg]; exact ⟨Nat.ne_of_lt hA.bx.lt, hA.le⟩⟩
       replace HT := aS (HT.out.step hbs)
       replace Ha := aS (Ha.out.step hbs)
       replace Hi := aS (Hi.out.step hbs)
       replace Cs := aS (Cs.out.below hbs)
       clear hbs hb hg hbox
       refine hK.out _ _ (by (try dsimp only); exact ⟨HT.out, Hi.out.bx⟩) (fun hHeld2 => ?_)
       clear hK K hHeld
       have hHeld := hHeld2
       clear hHeld2
       try simp only [Act.put, List.setIfInBounds_toArray, List.set_cons_zero, List.set_cons_succ]
       refine wpAnyLast_ready (rs := [3]) (by kernel_rfl) (by simp) (AllReadyL.cons (o := ({ dst := some 48, op := Go.Op.call { callee := Go.Callee.value (Go.Operand.func 41), args := #[Go.Operand.tmp 47, Go.Operand.const (Go.Value.int Go.IntKind.i64 1), Go.Operand.const (Go.Value.int Go.IntKind.i64 0)], argTypes := #[27, 3, 3] }, type := 27, pos := "law.go:176", after := #[{ on := 2, ground := Go.Ground.data }, { on := 1, ground := Go.Ground.chain }], guard := none } : Oper)) rfl (by decide) (fun K hK => ?c15_3) AllReadyL.nil)
       case c15_3 =>
        go_simp
        go_wp2_with (first | (go_at_call 41; go_must (with_reducible refine (lift_c k (Cu.out.below (below_step HT.out.below bs_)) RS.out.hl).mono ?_); rintro e wz ⟨L3, lc3, L4, lc4, rfl, hlv, hb⟩; have hbs := below_step bs_ hb; have Cl := aS hlv.now; clear hlv; replace HT := aS (HT.out.step hbs); replace Ha := aS (Ha.out.step hbs); replace Hi := aS (Hi.out.step hbs); replace Cs := aS (Cs.out.below hbs); replace Bge := aS (blk_below Bge.out hbs); clear hbs hb))
        refine hK.out _ _ (by (try dsimp only); exact ⟨HT.out, Hi.out.bx⟩) (fun hHeld2 => ?_)
        clear hK K hHeld
        have hHeld := hHeld2
        clear hHeld2
        try simp only [Act.put, List.setIfInBounds_toArray, List.set_cons_zero, List.set_cons_succ]
        refine wpAnyLast_ready (rs := [4]) (by kernel_rfl) (by simp) (AllReadyL.cons (o := ({ dst := some 49, op := Go.Op.call { callee := Go.Callee.value (Go.Operand.func 42), args := #[Go.Operand.tmp 46, Go.Operand.tmp 48], argTypes := #[27, 27] }, type := 27, pos := "law.go:176", after := #[{ on := 1, ground := Go.Ground.data }, { on := 3, ground := Go.Ground.data }, { on := 3, ground := Go.Ground.chain }], guard := none } : Oper)) rfl (by decide) (fun K hK => ?c16_4) AllReadyL.nil)
        case c16_4 =>
         go_simp
         go_wp2_with (first | (go_at_call 42; go_must (with_reducible refine (put_c k (Cs.out.below bs_) (Cl.out.below bs_) RS.out.hd).mono ?_); rintro e wz ⟨D3, dc3, D4, dc4, rfl, hlv, hb⟩; have hbs := below_step bs_ hb; have Cd := aS hlv.now; clear hlv Cs Cl; replace HT := aS (HT.out.step hbs); replace Ha := aS (Ha.out.step hbs); replace Hi := aS (Hi.out.step hbs); replace Bge := aS (blk_below Bge.out hbs); clear hbs hb))
         refine hK.out _ _ (by (try dsimp only); exact ⟨HT.out, Hi.out.bx⟩) (fun hHeld2 => ?_)
         clear hK K hHeld
         have hHeld := hHeld2
         clear hHeld2
         try simp only [Act.put, List.setIfInBounds_toArray, List.set_cons_zero, List.set_cons_succ]
         refine wpAnyLast_ready (rs := [6]) (by kernel_rfl) (by simp) (AllReadyL.cons (o := ({ dst := some 51, op := Go.Op.call { callee := Go.Callee.value (Go.Operand.func 42), args := #[Go.Operand.tmp 49, Go.Operand.tmp 50], argTypes := #[27, 27] }, type := 27, pos := "law.go:176", after := #[{ on := 4, ground := Go.Ground.data }, { on := 5, ground := Go.Ground.data }, { on := 4, ground := Go.Ground.chain }], guard := none } : Oper)) rfl (by decide) (fun K hK => ?c17_6) AllReadyL.nil)
         case c17_6 =>
          go_simp
          go_wp2_with (first | (go_at_call 42; go_must (with_reducible refine (put_c k (Cd.out.below bs_) (Hi.out.lv.now.below bs_) RS.out.he).mono ?_); rintro e wz ⟨E3, ec3, E4, ec4, rfl, hlv, hb⟩; have hbs := below_step bs_ hb; obtain ⟨be, ee, LVe, LEe, NAe⟩ : ∃ be ee, Aside0 (LV be ee wz E3 ec3 E4 ec4 e) ∧ Aside0 (ee ≤ wz.heap.size) ∧ Aside0 (ge < be ∨ ee ≤ ge) := ⟨_, _, ⟨hlv⟩, ⟨Nat.le_refl _⟩, ⟨Or.inl (Nat.lt_of_lt_of_le (blk_lt Bge.out) (below_size bs_))⟩⟩; clear hlv Cd; replace HT := aS (HT.out.step hbs); replace Ha := aS (Ha.out.step hbs); replace Hi := aS (Hi.out.step hbs); replace Bge := aS (blk_below Bge.out hbs); clear hbs hb))
          refine hK.out _ _ (by (try dsimp only); exact ⟨HT.out, Hi.out.bx⟩) (fun hHeld2 => ?_)
          clear hK K hHeld
          have hHeld := hHeld2
          clear hHeld2
          try simp only [Act.put, List.setIfInBounds_toArray, List.set_cons_zero, List.set_cons_succ]
          refine wpAnyLast_ready (rs := [8]) (by kernel_rfl) (by simp) (AllReadyL.cons_last (o := ({ dst := none, op := Go.Op.store 27 (Go.Operand.tmp 9) (Go.Operand.tmp 51), type := 0, pos := "law.go:176", after := #[{ on := 7, ground := Go.Ground.data }, { on := 6, ground := Go.Ground.data }, { on := 6, ground := Go.Ground.chain }, { on := 0, ground := Go.Ground.phase }, { on := 1, ground := Go.Ground.phase }, { on := 2, ground := Go.Ground.phase }, { on := 3, ground := Go.Ground.phase }, { on := 4, ground := Go.Ground.phase }, { on := 5, ground := Go.Ground.phase }, { on := 6, ground := Go.Ground.phase }, { on := 7, ground := Go.Ground.phase }], guard := none } : Oper)) rfl (by decide) (fun K hK => ?_) AllReadyL.nil)
          have hf := fill5' (x := e) (A3 := E3) (c3 := ec3) (A4 := E4) (c4 := ec4) Bge.out
          have He := aS (BL.fill hf.1 hf.2 LVe.out LEe.out NAe.out)
          have HT' := aS (HT.out.grown hf.2 Gge.out.1 Gge.out.2.1 Gge.out.2.2.1 Gge.out.2.2.2)
          clear HT
          have HT := HT'
          clear HT'
          have Ha' := aS (Ha.out.grown hf.2 NGa.out.1 NGa.out.2)
          clear Ha Hi
          have Ha := Ha'
          clear Ha'
          clear hf
          refine store_step (by rfl) rfl 27 _ _ rfl (g := ge) (off := 0) (cur := #[.int .i64 0, .int .i64 0, .string (⟨#[]⟩ : ByteArray), .slice none 0 0, .slice none 0 0]) (e := 27) (u := .agg #[.int .i64 e.f0, .int .i64 e.f1, .string e.f2, .slice E3 e.f3.length ec3, .slice E4 e.f4.length ec4]) [.int .i64 e.f0, .int .i64 e.f1, .string e.f2, .slice E3 e.f3.length ec3, .slice E4 e.f4.length ec4] (by rfl) (by rfl) Bge.out rfl (by kernel_rfl) (by simp) (by intro q_ hq_; simp at hq_; rcases hq_ with rfl | rfl | rfl | rfl | rfl <;> rfl) ?_
          obtain ⟨wq, hwq⟩ : ∃ wq, wq = wz.setCells ge 0 [.int .i64 e.f0, .int .i64 e.f1, .string e.f2, .slice E3 e.f3.length ec3, .slice E4 e.f4.length ec4] := ⟨_, rfl⟩
          rw [← hwq] at He HT Ha ⊢
          clear hwq
          refine hK.out _ _ ?_
          clear hK K
          try simp only [Act.put, List.setIfInBounds_toArray, List.set_cons_zero, List.set_cons_succ]
          refine wpAnyLast_done (by kernel_rfl) ?_ _
          with_reducible apply_assumption
          go_meet
          case rel => exact ⟨ge, be, ee, E3, ec3, E4, ec4, rfl, HT, Ha, He⟩
     case c7_7 =>
      refine box_step (by rfl) (N := 9) rfl (cs := #[.int .i64 0, .int .i64 0, .string (⟨#[]⟩ : ByteArray), .slice none 0 0, .slice none 0 0]) (t := 27) ?hr ?_
      case hr => first | (go_simp; done) | (go_simp; rfl)
      intro ge hg wz hbox hb
      have Bge := aS hbox
      have hbs := below_step bs_ hb
      have hT0 := HT.out.step bs_
      have Gge : Aside0 (w.heap.size ≤ ge ∧ g3 ≠ ge ∧ g4 ≠ ge ∧ g5 ≠ ge) := ⟨by rw [hg]; exact ⟨below_size hT0.below, Nat.ne_of_lt hT0.b3.lt, Nat.ne_of_lt hT0.b4.lt, Nat.ne_of_lt hT0.b5.lt⟩⟩
      clear hT0
      have NGa : Aside0 (ga ≠ ge ∧ ea ≤ ge) := ⟨by have hA := Ha.out.step bs_; rw [hg]; exact ⟨Nat.ne_of_lt hA.bx.lt, hA.le⟩⟩
      replace HT := aS (HT.out.step hbs)
      replace Ha := aS (Ha.out.step hbs)
      replace Hi := aS (Hi.out.step hbs)
      clear hbs hb hg hbox
      refine hK.out _ _ (by (try dsimp only); exact ⟨HT.out, Hi.out.bx⟩) (fun hHeld2 => ?_)
      clear hK K hHeld
      have hHeld := hHeld2
      clear hHeld2
      try simp only [Act.put, List.setIfInBounds_toArray, List.set_cons_zero, List.set_cons_succ]
      refine wpAnyLast_ready (rs := [1]) (by kernel_rfl) (by simp) (AllReadyL.cons (o := ({ dst := some 46, op := Go.Op.call { callee := Go.Callee.value (Go.Operand.func 44), args := #[Go.Operand.tmp 45], argTypes := #[27] }, type := 27, pos := "law.go:176", after := #[{ on := 0, ground := Go.Ground.data }], guard := none } : Oper)) rfl (by decide) (fun K hK => ?c18_1) AllReadyL.nil)
      case c18_1 =>
       go_simp
       go_wp2_with (first | (go_at_call 44; go_must (with_reducible refine (swap_c k (Ct.out.below (below_step HT.out.below bs_)) CW.out RS.out.cs RS.out.hc).mono ?_); rintro e wz ⟨S3, sc3, S4, sc4, rfl, hlv, hb⟩; have hbs := below_step bs_ hb; have Cs := aS hlv; clear hlv; replace HT := aS (HT.out.step hbs); replace Ha := aS (Ha.out.step hbs); replace Hi := aS (Hi.out.step hbs); replace Bge := aS (blk_below Bge.out hbs); clear hbs hb))
       refine hK.out _ _ (by (try dsimp only); exact ⟨HT.out, Hi.out.bx⟩) (fun hHeld2 => ?_)
       clear hK K hHeld
       have hHeld := hHeld2
       clear hHeld2
       try simp only [Act.put, List.setIfInBounds_toArray, List.set_cons_zero, List.set_cons_succ]
       refine wpAnyLast_ready (rs := [3]) (by kernel_rfl) (by simp) (AllReadyL.cons (o := ({ dst := some 48, op := Go.Op.call { callee := Go.Callee.value (Go.Operand.func 41), args := #[Go.Operand.tmp 47, Go.Operand.const (Go.Value.int Go.IntKind.i64 1), Go.Operand.const (Go.Value.int Go.IntKind.i64 0)], argTypes := #[27, 3, 3] }, type := 27, pos := "law.go:176", after := #[{ on := 2, ground := Go.Ground.data }, { on := 1, ground := Go.Ground.chain }], guard := none } : Oper)) rfl (by decide) (fun K hK => ?c19_3) AllReadyL.nil)
       case c19_3 =>
        go_simp
        go_wp2_with (first | (go_at_call 41; go_must (with_reducible refine (lift_c k (Cu.out.below (below_step HT.out.below bs_)) RS.out.hl).mono ?_); rintro e wz ⟨L3, lc3, L4, lc4, rfl, hlv, hb⟩; have hbs := below_step bs_ hb; have Cl := aS hlv.now; clear hlv; replace HT := aS (HT.out.step hbs); replace Ha := aS (Ha.out.step hbs); replace Hi := aS (Hi.out.step hbs); replace Cs := aS (Cs.out.below hbs); replace Bge := aS (blk_below Bge.out hbs); clear hbs hb))
        refine hK.out _ _ (by (try dsimp only); exact ⟨HT.out, Hi.out.bx⟩) (fun hHeld2 => ?_)
        clear hK K hHeld
        have hHeld := hHeld2
        clear hHeld2
        try simp only [Act.put, List.setIfInBounds_toArray, List.set_cons_zero, List.set_cons_succ]
        refine wpAnyLast_ready (rs := [4]) (by kernel_rfl) (by simp) (AllReadyL.cons (o := ({ dst := some 49, op := Go.Op.call { callee := Go.Callee.value (Go.Operand.func 42), args := #[Go.Operand.tmp 46, Go.Operand.tmp 48], argTypes := #[27, 27] }, type := 27, pos := "law.go:176", after := #[{ on := 1, ground := Go.Ground.data }, { on := 3, ground := Go.Ground.data }, { on := 3, ground := Go.Ground.chain }], guard := none } : Oper)) rfl (by decide) (fun K hK => ?c20_4) AllReadyL.nil)
        case c20_4 =>
         go_simp
         go_wp2_with (first | (go_at_call 42; go_must (with_reducible refine (put_c k (Cs.out.below bs_) (Cl.out.below bs_) RS.out.hd).mono ?_); rintro e wz ⟨D3, dc3, D4, dc4, rfl, hlv, hb⟩; have hbs := below_step bs_ hb; have Cd := aS hlv.now; clear hlv Cs Cl; replace HT := aS (HT.out.step hbs); replace Ha := aS (Ha.out.step hbs); replace Hi := aS (Hi.out.step hbs); replace Bge := aS (blk_below Bge.out hbs); clear hbs hb))
         refine hK.out _ _ (by (try dsimp only); exact ⟨HT.out, Hi.out.bx⟩) (fun hHeld2 => ?_)
         clear hK K hHeld
         have hHeld := hHeld2
         clear hHeld2
         try simp only [Act.put, List.setIfInBounds_toArray, List.set_cons_zero, List.set_cons_succ]
         refine wpAnyLast_ready (rs := [6]) (by kernel_rfl) (by simp) (AllReadyL.cons (o := ({ dst := some 51, op := Go.Op.call { callee := Go.Callee.value (Go.Operand.func 42), args := #[Go.Operand.tmp 49, Go.Operand.tmp 50], argTypes := #[27, 27] }, type := 27, pos := "law.go:176", after := #[{ on := 4, ground := Go.Ground.data }, { on := 5, ground := Go.Ground.data }, { on := 4, ground := Go.Ground.chain }], guard := none } : Oper)) rfl (by decide) (fun K hK => ?c21_6) AllReadyL.nil)
         case c21_6 =>
          go_simp
          go_wp2_with (first | (go_at_call 42; go_must (with_reducible refine (put_c k (Cd.out.below bs_) (Hi.out.lv.now.below bs_) RS.out.he).mono ?_); rintro e wz ⟨E3, ec3, E4, ec4, rfl, hlv, hb⟩; have hbs := below_step bs_ hb; obtain ⟨be, ee, LVe, LEe, NAe⟩ : ∃ be ee, Aside0 (LV be ee wz E3 ec3 E4 ec4 e) ∧ Aside0 (ee ≤ wz.heap.size) ∧ Aside0 (ge < be ∨ ee ≤ ge) := ⟨_, _, ⟨hlv⟩, ⟨Nat.le_refl _⟩, ⟨Or.inl (Nat.lt_of_lt_of_le (blk_lt Bge.out) (below_size bs_))⟩⟩; clear hlv Cd; replace HT := aS (HT.out.step hbs); replace Ha := aS (Ha.out.step hbs); replace Hi := aS (Hi.out.step hbs); replace Bge := aS (blk_below Bge.out hbs); clear hbs hb))
          refine hK.out _ _ (by (try dsimp only); exact ⟨HT.out, Hi.out.bx⟩) (fun hHeld2 => ?_)
          clear hK K hHeld
          have hHeld := hHeld2
          clear hHeld2
          try simp only [Act.put, List.setIfInBounds_toArray, List.set_cons_zero, List.set_cons_succ]
          refine wpAnyLast_ready (rs := [8]) (by kernel_rfl) (by simp) (AllReadyL.cons_last (o := ({ dst := none, op := Go.Op.store 27 (Go.Operand.tmp 9) (Go.Operand.tmp 51), type := 0, pos := "law.go:176", after := #[{ on := 7, ground := Go.Ground.data }, { on := 6, ground := Go.Ground.data }, { on := 6, ground := Go.Ground.chain }, { on := 0, ground := Go.Ground.phase }, { on := 1, ground := Go.Ground.phase }, { on := 2, ground := Go.Ground.phase }, { on := 3, ground := Go.Ground.phase }, { on := 4, ground := Go.Ground.phase }, { on := 5, ground := Go.Ground.phase }, { on := 6, ground := Go.Ground.phase }, { on := 7, ground := Go.Ground.phase }], guard := none } : Oper)) rfl (by decide) (fun K hK => ?_) AllReadyL.nil)
          have hf := fill5' (x := e) (A3 := E3) (c3 := ec3) (A4 := E4) (c4 := ec4) Bge.out
          have He := aS (BL.fill hf.1 hf.2 LVe.out LEe.out NAe.out)
          have HT' := aS (HT.out.grown hf.2 Gge.out.1 Gge.out.2.1 Gge.out.2.2.1 Gge.out.2.2.2)
          clear HT
          have HT := HT'
          clear HT'
          have Ha' := aS (Ha.out.grown hf.2 NGa.out.1 NGa.out.2)
          clear Ha Hi
          have Ha := Ha'
          clear Ha'
          clear hf
          refine store_step (by rfl) rfl 27 _ _ rfl (g := ge) (off := 0) (cur := #[.int .i64 0, .int .i64 0, .string (⟨#[]⟩ : ByteArray), .slice none 0 0, .slice none 0 0]) (e := 27) (u := .agg #[.int .i64 e.f0, .int .i64 e.f1, .string e.f2, .slice E3 e.f3.length ec3, .slice E4 e.f4.length ec4]) [.int .i64 e.f0, .int .i64 e.f1, .string e.f2, .slice E3 e.f3.length ec3, .slice E4 e.f4.length ec4] (by rfl) (by rfl) Bge.out rfl (by kernel_rfl) (by simp) (by intro q_ hq_; simp at hq_; rcases hq_ with rfl | rfl | rfl | rfl | rfl <;> rfl) ?_
          obtain ⟨wq, hwq⟩ : ∃ wq, wq = wz.setCells ge 0 [.int .i64 e.f0, .int .i64 e.f1, .string e.f2, .slice E3 e.f3.length ec3, .slice E4 e.f4.length ec4] := ⟨_, rfl⟩
          rw [← hwq] at He HT Ha ⊢
          clear hwq
          refine hK.out _ _ ?_
          clear hK K
          try simp only [Act.put, List.setIfInBounds_toArray, List.set_cons_zero, List.set_cons_succ]
          refine wpAnyLast_done (by kernel_rfl) ?_ _
          with_reducible apply_assumption
          go_meet
          case rel => exact ⟨ge, be, ee, E3, ec3, E4, ec4, rfl, HT, Ha, He⟩
    case rest =>
     clear Hi
     obtain ⟨ge, be, ee, E3, ec3, E4, ec4, rfl, HT, Ha, He⟩ := hcut
     obtain ⟨y0_, y1_, y2_, y3_, y4_⟩ := Ha.out.bx.cells
     obtain ⟨z0_, z1_, z2_, z3_, z4_⟩ := He.out.bx.cells
     go_wp2_with (first | (go_at_call 23; go_must (with_reducible refine (equal_c k (Ha.out.lv.now.below bs_) (He.out.lv.now.below bs_) RS.out.hq).mono ?_); rintro e wz ⟨rfl, hb⟩; have hbs := below_step bs_ hb; replace HT := aS (HT.out.step hbs); clear hbs hb))
     go_ret
     exact ⟨rfl, (by repeat (first | (with_reducible exact HT.out.below) | apply pw_below_drewN | apply below_drew1))⟩
end Go.Proofs.Ytpejhapgffcngaa.QK

