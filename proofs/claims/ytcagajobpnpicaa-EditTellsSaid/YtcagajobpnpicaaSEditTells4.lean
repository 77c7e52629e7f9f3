/- Proved here: what the row of EditTells needs, part 4. Conditions: those of each theorem. Written for this claim by programs; what the claim does not use is left out. -/
import Derived.Deep.RegionLaw
import Derived.BigRegion
import Derived.Test.YtcagajobpnpicaaSEditTells3
section
set_option linter.unusedVariables false
set_option linter.unusedSimpArgs false
namespace Go.Proofs.YtcagajobpnpicaaG
open Go Go.RowKit Go.Proofs.YtcagajobpnpicaaR Go.Proofs.YtcagajobpnpicaaL Go.Proofs.Ytcagajobpnpicaa.P Go.Proofs.YtcagajobpnpicaaW.PrintWords Go.Proofs.YtcagajobpnpicaaW.PrintMore
attribute [local go_sem] Oper.semAt_some max2_int

attribute [local go_sem] max2_int
set_option maxRecDepth 100000 in
set_option maxHeartbeats 8000000 in
theorem apply_no (A0 : Option Addr) (c0 : Nat) (l0 : List MetaS) (a b c : Int) (Ae : Option Addr) (ce : Nat) (l1 : List MetaS) (d e f : Int) (w : World) (hr0 : Kd.C k58 w A0 l0.length l0) (hc0 : l0.length ≤ c0) (hr1 : Kd.C k58 w Ae l1.length l1) (hc1 : l1.length ≤ ce) (hw : WfE l1 d e f) (hl : l0.length + 64 < 2932031007402) (hk0 : okB l0 a b c l1 d e f = false) :
  Calls Try.prog 15 #[.agg #[.slice A0 l0.length c0,.int .u64 a,.int .u64 b,.int .u64 c],.agg #[.slice Ae l1.length ce,.int .u64 d,.int .u64 e,.int .u64 f]] w fun e_ w'=>∃ v0_ : Value,e_ = .returned (.tuple #[.agg #[v0_,.int .u64 a,.int .u64 b,.int .u64 c],.int .i64 90]) ∧ Kd.R k58 58 w' w.heap.size (fun _=>True) v0_ l0 ∧ Below w.heap.size w w':=by
 have HR0:=Aside0.mk hr0
 have HC0:=Aside0.mk hc0
 have HR1:=Aside0.mk hr1
 have HC1:=Aside0.mk hc1
 have HW:=Aside0.mk hw
 have HL:=Aside0.mk hl
 have hue:=Try.underlying25
 have huv:=Try.underlying28
 have hum:=Try.underlying58
 obtain ⟨W0,hW0⟩ : ∃ W,W = ((w.alloc (vBx (.slice A0 l0.length c0) a b c)).alloc (eBx' Ae l1.length ce d e f)).alloc (vBx (.slice none 0 0) 0 0 0):=⟨_,rfl⟩
 have hB0 : Below w.heap.size w W0:=by rw [hW0];exact below_alloc (below_alloc (below_alloc (Below.refl _ _) _) _) _
 have hs0 : W0.heap.size = w.heap.size + 3:=by rw [hW0];simp
 have hbv : W0.heap[w.heap.size]? = some (vBx (.slice A0 l0.length c0) a b c):=by
  rw [hW0]
  exact (Below.heap_alloc _ _ _ (by simp;omega)).trans ((Below.heap_alloc _ _ _ (by simp)).trans (World.alloc_heap_new w _))
 have hbe : W0.heap[w.heap.size + 1]? = some (eBx' Ae l1.length ce d e f):=by
  have h7:=World.alloc_heap_new (w.alloc (vBx (.slice A0 l0.length c0) a b c)) (eBx' Ae l1.length ce d e f)
  rw [World.size_alloc] at h7
  rw [hW0]
  exact (Below.heap_alloc _ _ _ (by simp)).trans h7
 have hbr : W0.heap[w.heap.size + 1 + 1]? = some (vBx (.slice none 0 0) 0 0 0):=by
  have h7:=World.alloc_heap_new ((w.alloc (vBx (.slice A0 l0.length c0) a b c)).alloc (eBx' Ae l1.length ce d e f)) (vBx (.slice none 0 0) 0 0 0)
  rw [World.size_alloc,World.size_alloc] at h7
  rw [hW0]
  exact h7
 have HW0:=Aside0.mk hW0
 have HB0:=Aside0.mk hB0
 have HS0:=Aside0.mk hs0
 have HBV:=Aside0.mk hbv
 have HBE:=Aside0.mk hbe
 have HBR:=Aside0.mk hbr
 have hz0 : W0.cell? ⟨w.heap.size,0,none⟩ = some (.slice A0 l0.length c0):=(blk_cell hbv 0).trans rfl
 rw [hW0] at hz0
 clear hr0 hc0 hr1 hc1 hw hl hW0 hB0 hs0 hbv hbe hbr
 go_enter Try.func15,Try.ntmps15
 cases hRB : rightB l1 d e f with
 | false =>
  have hok : okB l0 a b c l1 d e f = false:=by unfold okB;rw [hRB];simp
  have HRB:=Aside0.mk hRB
  clear hRB
  go_wp2_with (first
   | (go_at_call 38;refine (clone_calls A0 c0 l0 _ (Kd.C_below HR0.out (show Below w.heap.size w _ by rw [← HW0.out];exact HB0.out)) HC0.out (by have:=HL.out;omega)).mono ?_;rintro e_ w1 ⟨v1,rfl,hv1,hd1⟩;rw [← HW0.out] at hv1 hd1;clear hz0;have hv2:=Kd.R_lower hv1 HB0.out.size;obtain ⟨A1,c1,e1⟩:=Kd.R_slice hv2;subst e1;have hbx:=(hd1.block _ (blk_lt HBV.out)).trans HBV.out;have hbe:=(hd1.block _ (blk_lt HBE.out)).trans HBE.out;have hx0:=(blk_cell hbx 0).trans rfl;have hf0:=blk_frozen hbx 0;have hy0:=(blk_cell hbe 0).trans rfl;have hy1:=(blk_cell hbe 1).trans rfl;have hy2:=(blk_cell hbe 2).trans rfl;have hy3:=(blk_cell hbe 3).trans rfl;have HST:=Aside0.mk (ast_one HB0.out hd1 HBV.out HBE.out HBR.out hv2 trivial);clear hv1 hv2 hd1 hbx hbe)
   | (go_at_call 17;refine (right_calls Ae ce l1 d e f _ (Kd.C_below HR1.out HST.out.bel) HC1.out HW.out).mono ?_;rw [HRB.out];rintro e_ w2 ⟨rfl,hd2⟩;have hst2:=HST.out.below hd2;clear hx0 hf0 hy0 hy1 hy2 hy3;have hx0:=(blk_cell hst2.vbx 0).trans rfl;have hx1:=(blk_cell hst2.vbx 1).trans rfl;have hx2:=(blk_cell hst2.vbx 2).trans rfl;have hx3:=(blk_cell hst2.vbx 3).trans rfl;have hy0:=(blk_cell hst2.ebx 0).trans rfl;have hy1:=(blk_cell hst2.ebx 1).trans rfl;have hy2:=(blk_cell hst2.ebx 2).trans rfl;have hy3:=(blk_cell hst2.ebx 3).trans rfl;have hr0:=(blk_cell hst2.rbx 0).trans rfl;have hr1:=(blk_cell hst2.rbx 1).trans rfl;have hr2:=(blk_cell hst2.rbx 2).trans rfl;have hr3:=(blk_cell hst2.rbx 3).trans rfl;have hq0:=blk_frozen hst2.rbx 0;have hq1:=blk_frozen hst2.rbx 1;have hq2:=blk_frozen hst2.rbx 2;have hq3:=blk_frozen hst2.rbx 3;have hv0:=blk_frozen hst2.vbx 0;have hv1:=blk_frozen hst2.vbx 1;have hv2:=blk_frozen hst2.vbx 2;have hv3:=blk_frozen hst2.vbx 3;have HS2:=Aside0.mk hst2;clear hd2 hst2))
  refine bodyPost_ret (results_ct rfl _ _ (w.heap.size + 1 + 1) 28 #[.slice A1 l0.length c1,.int .u64 a,.int .u64 b,.int .u64 c] (0,0) _ rfl (blk_put (cs':=#[.slice A1 l0.length c1,.int .u64 a,.int .u64 b,.int .u64 c]) (blk_put (cs':=#[.slice A1 l0.length c1,.int .u64 a,.int .u64 b,.int .u64 0]) (blk_put (cs':=#[.slice A1 l0.length c1,.int .u64 a,.int .u64 0,.int .u64 0]) (blk_put (cs':=#[.slice A1 l0.length c1,.int .u64 0,.int .u64 0,.int .u64 0]) HS2.out.rbx 0 _ rfl) 1 _ rfl) 2 _ rfl) 3 _ rfl) huv rfl (by kernel_rfl)) rfl ?_
  exact ⟨_,rfl,Kd.R_mono (Kd.R_far (p:=⟨w.heap.size + 1 + 1,3,none⟩) (Kd.R_far (p:=⟨w.heap.size + 1 + 1,2,none⟩) (Kd.R_far (p:=⟨w.heap.size + 1 + 1,1,none⟩) (Kd.R_far (p:=⟨w.heap.size + 1 + 1,0,none⟩) (Kd.R_types HS2.out.row HS2.out.rbx (by decide)) (fun k hk=>hk.2) _) (fun k hk=>hk.2) _) (fun k hk=>hk.2) _) (fun k hk=>hk.2) _) (fun _ _=>trivial),(((HS2.out.bel.setCell (p:=⟨w.heap.size + 1 + 1,0,none⟩) (by show w.heap.size ≤ w.heap.size + 1 + 1;omega) _).setCell (p:=⟨w.heap.size + 1 + 1,1,none⟩) (by show w.heap.size ≤ w.heap.size + 1 + 1;omega) _).setCell (p:=⟨w.heap.size + 1 + 1,2,none⟩) (by show w.heap.size ≤ w.heap.size + 1 + 1;omega) _).setCell (p:=⟨w.heap.size + 1 + 1,3,none⟩) (by show w.heap.size ≤ w.heap.size + 1 + 1;omega) _⟩
 | true =>
  have HRB:=Aside0.mk hRB
  cases hf1 : fallsB a d with
  | true =>
   have hok : okB l0 a b c l1 d e f = false:=by unfold okB;rw [hRB,hf1];simp
   have HF1:=Aside0.mk hf1
   clear hRB hf1
   go_wp2_with (first
   | (go_at_call 38;refine (clone_calls A0 c0 l0 _ (Kd.C_below HR0.out (show Below w.heap.size w _ by rw [← HW0.out];exact HB0.out)) HC0.out (by have:=HL.out;omega)).mono ?_;rintro e_ w1 ⟨v1,rfl,hv1,hd1⟩;rw [← HW0.out] at hv1 hd1;clear hz0;have hv2:=Kd.R_lower hv1 HB0.out.size;obtain ⟨A1,c1,e1⟩:=Kd.R_slice hv2;subst e1;have hbx:=(hd1.block _ (blk_lt HBV.out)).trans HBV.out;have hbe:=(hd1.block _ (blk_lt HBE.out)).trans HBE.out;have hx0:=(blk_cell hbx 0).trans rfl;have hf0:=blk_frozen hbx 0;have hy0:=(blk_cell hbe 0).trans rfl;have hy1:=(blk_cell hbe 1).trans rfl;have hy2:=(blk_cell hbe 2).trans rfl;have hy3:=(blk_cell hbe 3).trans rfl;have HST:=Aside0.mk (ast_one HB0.out hd1 HBV.out HBE.out HBR.out hv2 trivial);clear hv1 hv2 hd1 hbx hbe)
   | (go_at_call 17;refine (right_calls Ae ce l1 d e f _ (Kd.C_below HR1.out HST.out.bel) HC1.out HW.out).mono ?_;rw [HRB.out];rintro e_ w2 ⟨rfl,hd2⟩;have hst2:=HST.out.below hd2;clear hx0 hf0 hy0 hy1 hy2 hy3;have hx0:=(blk_cell hst2.vbx 0).trans rfl;have hx1:=(blk_cell hst2.vbx 1).trans rfl;have hx2:=(blk_cell hst2.vbx 2).trans rfl;have hx3:=(blk_cell hst2.vbx 3).trans rfl;have hy0:=(blk_cell hst2.ebx 0).trans rfl;have hy1:=(blk_cell hst2.ebx 1).trans rfl;have hy2:=(blk_cell hst2.ebx 2).trans rfl;have hy3:=(blk_cell hst2.ebx 3).trans rfl;have hr0:=(blk_cell hst2.rbx 0).trans rfl;have hr1:=(blk_cell hst2.rbx 1).trans rfl;have hr2:=(blk_cell hst2.rbx 2).trans rfl;have hr3:=(blk_cell hst2.rbx 3).trans rfl;have hq0:=blk_frozen hst2.rbx 0;have hq1:=blk_frozen hst2.rbx 1;have hq2:=blk_frozen hst2.rbx 2;have hq3:=blk_frozen hst2.rbx 3;have hv0:=blk_frozen hst2.vbx 0;have hv1:=blk_frozen hst2.vbx 1;have hv2:=blk_frozen hst2.vbx 2;have hv3:=blk_frozen hst2.vbx 3;have HS2:=Aside0.mk hst2;clear hd2 hst2)
   | (go_at_call 39;(with_reducible refine (falls_calls a d _).mono ?_);rw [HF1.out];rintro e_ w3 ⟨rfl,rfl⟩))
   refine bodyPost_ret (results_ct rfl _ _ (w.heap.size + 1 + 1) 28 #[.slice A1 l0.length c1,.int .u64 a,.int .u64 b,.int .u64 c] (0,0) _ rfl (blk_put (cs':=#[.slice A1 l0.length c1,.int .u64 a,.int .u64 b,.int .u64 c]) (blk_put (cs':=#[.slice A1 l0.length c1,.int .u64 a,.int .u64 b,.int .u64 0]) (blk_put (cs':=#[.slice A1 l0.length c1,.int .u64 a,.int .u64 0,.int .u64 0]) (blk_put (cs':=#[.slice A1 l0.length c1,.int .u64 0,.int .u64 0,.int .u64 0]) HS2.out.rbx 0 _ rfl) 1 _ rfl) 2 _ rfl) 3 _ rfl) huv rfl (by kernel_rfl)) rfl ?_
   exact ⟨_,rfl,Kd.R_mono (Kd.R_far (p:=⟨w.heap.size + 1 + 1,3,none⟩) (Kd.R_far (p:=⟨w.heap.size + 1 + 1,2,none⟩) (Kd.R_far (p:=⟨w.heap.size + 1 + 1,1,none⟩) (Kd.R_far (p:=⟨w.heap.size + 1 + 1,0,none⟩) (Kd.R_types HS2.out.row HS2.out.rbx (by decide)) (fun k hk=>hk.2) _) (fun k hk=>hk.2) _) (fun k hk=>hk.2) _) (fun k hk=>hk.2) _) (fun _ _=>trivial),(((HS2.out.bel.setCell (p:=⟨w.heap.size + 1 + 1,0,none⟩) (by show w.heap.size ≤ w.heap.size + 1 + 1;omega) _).setCell (p:=⟨w.heap.size + 1 + 1,1,none⟩) (by show w.heap.size ≤ w.heap.size + 1 + 1;omega) _).setCell (p:=⟨w.heap.size + 1 + 1,2,none⟩) (by show w.heap.size ≤ w.heap.size + 1 + 1;omega) _).setCell (p:=⟨w.heap.size + 1 + 1,3,none⟩) (by show w.heap.size ≤ w.heap.size + 1 + 1;omega) _⟩
  | false =>
   have HF1:=Aside0.mk hf1
   cases hf2 : fallsB b e with
   | true =>
    have hok : okB l0 a b c l1 d e f = false:=by unfold okB;rw [hRB,hf1,hf2];simp
    have HF2:=Aside0.mk hf2
    clear hRB hf1 hf2
    go_wp2_with (first
   | (go_at_call 38;refine (clone_calls A0 c0 l0 _ (Kd.C_below HR0.out (show Below w.heap.size w _ by rw [← HW0.out];exact HB0.out)) HC0.out (by have:=HL.out;omega)).mono ?_;rintro e_ w1 ⟨v1,rfl,hv1,hd1⟩;rw [← HW0.out] at hv1 hd1;clear hz0;have hv2:=Kd.R_lower hv1 HB0.out.size;obtain ⟨A1,c1,e1⟩:=Kd.R_slice hv2;subst e1;have hbx:=(hd1.block _ (blk_lt HBV.out)).trans HBV.out;have hbe:=(hd1.block _ (blk_lt HBE.out)).trans HBE.out;have hx0:=(blk_cell hbx 0).trans rfl;have hf0:=blk_frozen hbx 0;have hy0:=(blk_cell hbe 0).trans rfl;have hy1:=(blk_cell hbe 1).trans rfl;have hy2:=(blk_cell hbe 2).trans rfl;have hy3:=(blk_cell hbe 3).trans rfl;have HST:=Aside0.mk (ast_one HB0.out hd1 HBV.out HBE.out HBR.out hv2 trivial);clear hv1 hv2 hd1 hbx hbe)
   | (go_at_call 17;refine (right_calls Ae ce l1 d e f _ (Kd.C_below HR1.out HST.out.bel) HC1.out HW.out).mono ?_;rw [HRB.out];rintro e_ w2 ⟨rfl,hd2⟩;have hst2:=HST.out.below hd2;clear hx0 hf0 hy0 hy1 hy2 hy3;have hx0:=(blk_cell hst2.vbx 0).trans rfl;have hx1:=(blk_cell hst2.vbx 1).trans rfl;have hx2:=(blk_cell hst2.vbx 2).trans rfl;have hx3:=(blk_cell hst2.vbx 3).trans rfl;have hy0:=(blk_cell hst2.ebx 0).trans rfl;have hy1:=(blk_cell hst2.ebx 1).trans rfl;have hy2:=(blk_cell hst2.ebx 2).trans rfl;have hy3:=(blk_cell hst2.ebx 3).trans rfl;have hr0:=(blk_cell hst2.rbx 0).trans rfl;have hr1:=(blk_cell hst2.rbx 1).trans rfl;have hr2:=(blk_cell hst2.rbx 2).trans rfl;have hr3:=(blk_cell hst2.rbx 3).trans rfl;have hq0:=blk_frozen hst2.rbx 0;have hq1:=blk_frozen hst2.rbx 1;have hq2:=blk_frozen hst2.rbx 2;have hq3:=blk_frozen hst2.rbx 3;have hv0:=blk_frozen hst2.vbx 0;have hv1:=blk_frozen hst2.vbx 1;have hv2:=blk_frozen hst2.vbx 2;have hv3:=blk_frozen hst2.vbx 3;have HS2:=Aside0.mk hst2;clear hd2 hst2)
   | (go_at_call 39;(with_reducible refine (falls_calls a d _).mono ?_);rw [HF1.out];rintro e_ w3 ⟨rfl,rfl⟩)
   | (go_at_call 39;(with_reducible refine (falls_calls b e _).mono ?_);rw [HF2.out];rintro e_ w3 ⟨rfl,rfl⟩))
    refine bodyPost_ret (results_ct rfl _ _ (w.heap.size + 1 + 1) 28 #[.slice A1 l0.length c1,.int .u64 a,.int .u64 b,.int .u64 c] (0,0) _ rfl (blk_put (cs':=#[.slice A1 l0.length c1,.int .u64 a,.int .u64 b,.int .u64 c]) (blk_put (cs':=#[.slice A1 l0.length c1,.int .u64 a,.int .u64 b,.int .u64 0]) (blk_put (cs':=#[.slice A1 l0.length c1,.int .u64 a,.int .u64 0,.int .u64 0]) (blk_put (cs':=#[.slice A1 l0.length c1,.int .u64 0,.int .u64 0,.int .u64 0]) HS2.out.rbx 0 _ rfl) 1 _ rfl) 2 _ rfl) 3 _ rfl) huv rfl (by kernel_rfl)) rfl ?_
    exact ⟨_,rfl,Kd.R_mono (Kd.R_far (p:=⟨w.heap.size + 1 + 1,3,none⟩) (Kd.R_far (p:=⟨w.heap.size + 1 + 1,2,none⟩) (Kd.R_far (p:=⟨w.heap.size + 1 + 1,1,none⟩) (Kd.R_far (p:=⟨w.heap.size + 1 + 1,0,none⟩) (Kd.R_types HS2.out.row HS2.out.rbx (by decide)) (fun k hk=>hk.2) _) (fun k hk=>hk.2) _) (fun k hk=>hk.2) _) (fun k hk=>hk.2) _) (fun _ _=>trivial),(((HS2.out.bel.setCell (p:=⟨w.heap.size + 1 + 1,0,none⟩) (by show w.heap.size ≤ w.heap.size + 1 + 1;omega) _).setCell (p:=⟨w.heap.size + 1 + 1,1,none⟩) (by show w.heap.size ≤ w.heap.size + 1 + 1;omega) _).setCell (p:=⟨w.heap.size + 1 + 1,2,none⟩) (by show w.heap.size ≤ w.heap.size + 1 + 1;omega) _).setCell (p:=⟨w.heap.size + 1 + 1,3,none⟩) (by show w.heap.size ≤ w.heap.size + 1 + 1;omega) _⟩
   | false =>
    have HF2:=Aside0.mk hf2
    cases hf3 : fallsB c f with
    | true =>
     have hok : okB l0 a b c l1 d e f = false:=by unfold okB;rw [hRB,hf1,hf2,hf3];simp
     have HF3:=Aside0.mk hf3
     clear hRB hf1 hf2 hf3
     go_wp2_with (first
   | (go_at_call 38;refine (clone_calls A0 c0 l0 _ (Kd.C_below HR0.out (show Below w.heap.size w _ by rw [← HW0.out];exact HB0.out)) HC0.out (by have:=HL.out;omega)).mono ?_;rintro e_ w1 ⟨v1,rfl,hv1,hd1⟩;rw [← HW0.out] at hv1 hd1;clear hz0;have hv2:=Kd.R_lower hv1 HB0.out.size;obtain ⟨A1,c1,e1⟩:=Kd.R_slice hv2;subst e1;have hbx:=(hd1.block _ (blk_lt HBV.out)).trans HBV.out;have hbe:=(hd1.block _ (blk_lt HBE.out)).trans HBE.out;have hx0:=(blk_cell hbx 0).trans rfl;have hf0:=blk_frozen hbx 0;have hy0:=(blk_cell hbe 0).trans rfl;have hy1:=(blk_cell hbe 1).trans rfl;have hy2:=(blk_cell hbe 2).trans rfl;have hy3:=(blk_cell hbe 3).trans rfl;have HST:=Aside0.mk (ast_one HB0.out hd1 HBV.out HBE.out HBR.out hv2 trivial);clear hv1 hv2 hd1 hbx hbe)
   | (go_at_call 17;refine (right_calls Ae ce l1 d e f _ (Kd.C_below HR1.out HST.out.bel) HC1.out HW.out).mono ?_;rw [HRB.out];rintro e_ w2 ⟨rfl,hd2⟩;have hst2:=HST.out.below hd2;clear hx0 hf0 hy0 hy1 hy2 hy3;have hx0:=(blk_cell hst2.vbx 0).trans rfl;have hx1:=(blk_cell hst2.vbx 1).trans rfl;have hx2:=(blk_cell hst2.vbx 2).trans rfl;have hx3:=(blk_cell hst2.vbx 3).trans rfl;have hy0:=(blk_cell hst2.ebx 0).trans rfl;have hy1:=(blk_cell hst2.ebx 1).trans rfl;have hy2:=(blk_cell hst2.ebx 2).trans rfl;have hy3:=(blk_cell hst2.ebx 3).trans rfl;have hr0:=(blk_cell hst2.rbx 0).trans rfl;have hr1:=(blk_cell hst2.rbx 1).trans rfl;have hr2:=(blk_cell hst2.rbx 2).trans rfl;have hr3:=(blk_cell hst2.rbx 3).trans rfl;have hq0:=blk_frozen hst2.rbx 0;have hq1:=blk_frozen hst2.rbx 1;have hq2:=blk_frozen hst2.rbx 2;have hq3:=blk_frozen hst2.rbx 3;have hv0:=blk_frozen hst2.vbx 0;have hv1:=blk_frozen hst2.vbx 1;have hv2:=blk_frozen hst2.vbx 2;have hv3:=blk_frozen hst2.vbx 3;have HS2:=Aside0.mk hst2;clear hd2 hst2)
   | (go_at_call 39;(with_reducible refine (falls_calls a d _).mono ?_);rw [HF1.out];rintro e_ w3 ⟨rfl,rfl⟩)
   | (go_at_call 39;(with_reducible refine (falls_calls b e _).mono ?_);rw [HF2.out];rintro e_ w3 ⟨rfl,rfl⟩)
   | (go_at_call 39;(with_reducible refine (falls_calls c f _).mono ?_);rw [HF3.out];rintro e_ w3 ⟨rfl,rfl⟩))
     refine bodyPost_ret (results_ct rfl _ _ (w.heap.size + 1 + 1) 28 #[.slice A1 l0.length c1,.int .u64 a,.int .u64 b,.int .u64 c] (0,0) _ rfl (blk_put (cs':=#[.slice A1 l0.length c1,.int .u64 a,.int .u64 b,.int .u64 c]) (blk_put (cs':=#[.slice A1 l0.length c1,.int .u64 a,.int .u64 b,.int .u64 0]) (blk_put (cs':=#[.slice A1 l0.length c1,.int .u64 a,.int .u64 0,.int .u64 0]) (blk_put (cs':=#[.slice A1 l0.length c1,.int .u64 0,.int .u64 0,.int .u64 0]) HS2.out.rbx 0 _ rfl) 1 _ rfl) 2 _ rfl) 3 _ rfl) huv rfl (by kernel_rfl)) rfl ?_
     exact ⟨_,rfl,Kd.R_mono (Kd.R_far (p:=⟨w.heap.size + 1 + 1,3,none⟩) (Kd.R_far (p:=⟨w.heap.size + 1 + 1,2,none⟩) (Kd.R_far (p:=⟨w.heap.size + 1 + 1,1,none⟩) (Kd.R_far (p:=⟨w.heap.size + 1 + 1,0,none⟩) (Kd.R_types HS2.out.row HS2.out.rbx (by decide)) (fun k hk=>hk.2) _) (fun k hk=>hk.2) _) (fun k hk=>hk.2) _) (fun k hk=>hk.2) _) (fun _ _=>trivial),(((HS2.out.bel.setCell (p:=⟨w.heap.size + 1 + 1,0,none⟩) (by show w.heap.size ≤ w.heap.size + 1 + 1;omega) _).setCell (p:=⟨w.heap.size + 1 + 1,1,none⟩) (by show w.heap.size ≤ w.heap.size + 1 + 1;omega) _).setCell (p:=⟨w.heap.size + 1 + 1,2,none⟩) (by show w.heap.size ≤ w.heap.size + 1 + 1;omega) _).setCell (p:=⟨w.heap.size + 1 + 1,3,none⟩) (by show w.heap.size ≤ w.heap.size + 1 + 1;omega) _⟩
    | false =>
     have HF3:=Aside0.mk hf3
     cases hlow : lowB l0 l1 with
     | true =>
      have hok : okB l0 a b c l1 d e f = false:=by unfold okB;rw [hRB,hf1,hf2,hf3,hlow];simp
      have hnm : 0 < l0.length ∧ 0 < l1.length:=by unfold lowB at hlow;simp only [Bool.and_eq_true,decide_eq_true_eq] at hlow;exact hlow.1
      have HLOW:=Aside0.mk hlow
      have HNM:=Aside0.mk hnm
      clear hRB hf1 hf2 hf3 hlow hnm
      go_wp2_with (first
    | (go_at_call 38;refine (clone_calls A0 c0 l0 _ (Kd.C_below HR0.out (show Below w.heap.size w _ by rw [← HW0.out];exact HB0.out)) HC0.out (by have:=HL.out;omega)).mono ?_;rintro e_ w1 ⟨v1,rfl,hv1,hd1⟩;rw [← HW0.out] at hv1 hd1;clear hz0;have hv2:=Kd.R_lower hv1 HB0.out.size;obtain ⟨A1,c1,e1⟩:=Kd.R_slice hv2;subst e1;have hbx:=(hd1.block _ (blk_lt HBV.out)).trans HBV.out;have hbe:=(hd1.block _ (blk_lt HBE.out)).trans HBE.out;have hx0:=(blk_cell hbx 0).trans rfl;have hf0:=blk_frozen hbx 0;have hy0:=(blk_cell hbe 0).trans rfl;have hy1:=(blk_cell hbe 1).trans rfl;have hy2:=(blk_cell hbe 2).trans rfl;have hy3:=(blk_cell hbe 3).trans rfl;have HST:=Aside0.mk (ast_one HB0.out hd1 HBV.out HBE.out HBR.out hv2 trivial);clear hv1 hv2 hd1 hbx hbe)
    | (go_at_call 17;refine (right_calls Ae ce l1 d e f _ (Kd.C_below HR1.out HST.out.bel) HC1.out HW.out).mono ?_;rw [HRB.out];rintro e_ w2 ⟨rfl,hd2⟩;have hst2:=HST.out.below hd2;clear hx0 hf0 hy0 hy1 hy2 hy3;have hx0:=(blk_cell hst2.vbx 0).trans rfl;have hx1:=(blk_cell hst2.vbx 1).trans rfl;have hx2:=(blk_cell hst2.vbx 2).trans rfl;have hx3:=(blk_cell hst2.vbx 3).trans rfl;have hy0:=(blk_cell hst2.ebx 0).trans rfl;have hy1:=(blk_cell hst2.ebx 1).trans rfl;have hy2:=(blk_cell hst2.ebx 2).trans rfl;have hy3:=(blk_cell hst2.ebx 3).trans rfl;have hr0:=(blk_cell hst2.rbx 0).trans rfl;have hr1:=(blk_cell hst2.rbx 1).trans rfl;have hr2:=(blk_cell hst2.rbx 2).trans rfl;have hr3:=(blk_cell hst2.rbx 3).trans rfl;have hq0:=blk_frozen hst2.rbx 0;have hq1:=blk_frozen hst2.rbx 1;have hq2:=blk_frozen hst2.rbx 2;have hq3:=blk_frozen hst2.rbx 3;have hv0:=blk_frozen hst2.vbx 0;have hv1:=blk_frozen hst2.vbx 1;have hv2:=blk_frozen hst2.vbx 2;have hv3:=blk_frozen hst2.vbx 3;have HS2:=Aside0.mk hst2;clear hd2 hst2)
    | (go_at_call 39;(with_reducible refine (falls_calls a d _).mono ?_);rw [HF1.out];rintro e_ w3 ⟨rfl,rfl⟩)
    | (go_at_call 39;(with_reducible refine (falls_calls b e _).mono ?_);rw [HF2.out];rintro e_ w3 ⟨rfl,rfl⟩)
    | (go_at_call 39;(with_reducible refine (falls_calls c f _).mono ?_);rw [HF3.out];rintro e_ w3 ⟨rfl,rfl⟩))
      obtain ⟨hn,hm⟩:=HNM.out
      have dn : decide (0 < (l0.length : Int)) = true:=decide_eq_true (by omega)
      have dm : decide (0 < (l1.length : Int)) = true:=decide_eq_true (by omega)
      have dn' : decide (0 < l0.length) = true:=decide_eq_true hn
      have dm' : decide (0 < l1.length) = true:=decide_eq_true hm
      obtain ⟨j,hj⟩ : ∃ j : Nat,l0.length = j + 1:=⟨l0.length - 1,by omega⟩
      obtain ⟨ad1,e1,h1,_⟩:=at_T58 (Kd.C_below HR1.out HS2.out.bel) 0 (Int.le_refl _) (by omega)
      obtain ⟨ad2,e2,h2,_⟩:=at_T58 (Kd.R_reads' HS2.out.row).2.2 (j : Int) (by omega) (by omega)
      have hlow : lowB l0 l1 = decide ((rd_T58 l1 0).f0 ≤ (rd_T58 l0 (j : Int)).f0):=by unfold lowB;rw [dn',dm',show ((l0.length : Int) - 1) = (j : Int) by omega];rfl
      have dle:=HLOW.out
      rw [hlow] at dle
      subst e1
      subst e2
      have h1' : w2.cell? ad1 = some (.int .u64 (rd_T58 l1 0).f0):=by simpa [Addr.add] using h1
      rw [Int.toNat_natCast] at h2
      have hwj : wrap64 ((l0.length : Int) - 1) = (j : Int):=by unfold wrap64;have:=HL.out;omega
      have hjl : (j : Int) < (l0.length : Int):=by omega
      have hjl' : j < l0.length:=by omega
      have hml : (0 : Int) < (l1.length : Int):=by omega
      generalize (rd_T58 l1 0).f0 = x at *
      generalize (rd_T58 l0 (j : Int)).f0 = y at *
      clear h1 hlow dn' dm' hj HLOW
      have hle:=of_decide_eq_true dle
      go_quiet (fail)
      go_wp2
      refine bodyPost_ret (results_ct rfl _ _ (w.heap.size + 1 + 1) 28 #[.slice (some ad2) l0.length c1,.int .u64 a,.int .u64 b,.int .u64 c] (0,0) _ rfl (blk_put (cs':=#[.slice (some ad2) l0.length c1,.int .u64 a,.int .u64 b,.int .u64 c]) (blk_put (cs':=#[.slice (some ad2) l0.length c1,.int .u64 a,.int .u64 b,.int .u64 0]) (blk_put (cs':=#[.slice (some ad2) l0.length c1,.int .u64 a,.int .u64 0,.int .u64 0]) (blk_put (cs':=#[.slice (some ad2) l0.length c1,.int .u64 0,.int .u64 0,.int .u64 0]) (blk_drewN HS2.out.rbx _) 0 _ rfl) 1 _ rfl) 2 _ rfl) 3 _ rfl) huv rfl (by kernel_rfl)) rfl ?_
      exact ⟨_,rfl,Kd.R_mono (Kd.R_far (p:=⟨w.heap.size + 1 + 1,3,none⟩) (Kd.R_far (p:=⟨w.heap.size + 1 + 1,2,none⟩) (Kd.R_far (p:=⟨w.heap.size + 1 + 1,1,none⟩) (Kd.R_far (p:=⟨w.heap.size + 1 + 1,0,none⟩) (Kd.R_types (Kd.R_drewN HS2.out.row _) (blk_drewN HS2.out.rbx _) (by decide)) (fun k hk=>hk.2) _) (fun k hk=>hk.2) _) (fun k hk=>hk.2) _) (fun k hk=>hk.2) _) (fun _ _=>trivial),((((pw_below_drewN HS2.out.bel _).setCell (p:=⟨w.heap.size + 1 + 1,0,none⟩) (by show w.heap.size ≤ w.heap.size + 1 + 1;omega) _).setCell (p:=⟨w.heap.size + 1 + 1,1,none⟩) (by show w.heap.size ≤ w.heap.size + 1 + 1;omega) _).setCell (p:=⟨w.heap.size + 1 + 1,2,none⟩) (by show w.heap.size ≤ w.heap.size + 1 + 1;omega) _).setCell (p:=⟨w.heap.size + 1 + 1,3,none⟩) (by show w.heap.size ≤ w.heap.size + 1 + 1;omega) _⟩
     | false =>
      exfalso
      have hok : okB l0 a b c l1 d e f = true:=by unfold okB;rw [hRB,hf1,hf2,hf3,hlow];rfl
      rw [hok] at hk0
      cases hk0

end Go.Proofs.YtcagajobpnpicaaG

end

section
set_option linter.unusedVariables false
set_option linter.unusedSimpArgs false
namespace Go.Proofs.YtcagajobpnpicaaG
open Go Go.RowKit Go.Proofs.YtcagajobpnpicaaR Go.Proofs.YtcagajobpnpicaaL Go.Proofs.Ytcagajobpnpicaa.P Go.Proofs.YtcagajobpnpicaaW.PrintWords Go.Proofs.YtcagajobpnpicaaW.PrintMore
attribute [local go_sem] Oper.semAt_some max2_int

attribute [local go_sem] max2_int
set_option maxRecDepth 100000 in
set_option maxHeartbeats 8000000 in
theorem apply_ok_a (A0 : Option Addr) (c0 : Nat) (l0 : List MetaS) (a b c : Int) (Ae : Option Addr) (ce : Nat) (l1 : List MetaS) (d e f : Int) (w : World) (hr0 : Kd.C k58 w A0 l0.length l0) (hc0 : l0.length ≤ c0) (hr1 : Kd.C k58 w Ae l1.length l1) (hc1 : l1.length ≤ ce) (hw : WfE l1 d e f) (hl : l0.length + 64 < 2932031007402) (hk0 : okB l0 a b c l1 d e f = true) (x9 y9 z9 : Int) (hx9 : mx a d = x9) (hy9 : mx b e = y9) (hz9 : mx c f = z9) (hn : 0 < l0.length) (hm : 0 < l1.length) :
  Calls Try.prog 15 #[.agg #[.slice A0 l0.length c0,.int .u64 a,.int .u64 b,.int .u64 c],.agg #[.slice Ae l1.length ce,.int .u64 d,.int .u64 e,.int .u64 f]] w fun e_ w'=>∃ v0_ : Value,e_ = .returned (.tuple #[.agg #[v0_,.int .u64 x9,.int .u64 y9,.int .u64 z9],.int .i64 0]) ∧ Kd.R k58 58 w' w.heap.size (fun _=>True) v0_ (l0 ++ l1) ∧ Below w.heap.size w w':=by
 have hall : rightB l1 d e f = true ∧ fallsB a d = false ∧ fallsB b e = false ∧ fallsB c f = false ∧ lowB l0 l1 = false:=by
  unfold okB at hk0
  simp only [Bool.and_eq_true,Bool.not_eq_true'] at hk0
  exact ⟨hk0.1.1.1.1,hk0.1.1.1.2,hk0.1.1.2,hk0.1.2,hk0.2⟩
 have HX9:=Aside0.mk hx9
 have HY9:=Aside0.mk hy9
 have HZ9:=Aside0.mk hz9
 clear hx9 hy9 hz9
 have HRB:=Aside0.mk hall.1
 have HF1:=Aside0.mk hall.2.1
 have HF2:=Aside0.mk hall.2.2.1
 have HF3:=Aside0.mk hall.2.2.2.1
 have HLOW:=Aside0.mk hall.2.2.2.2
 clear hall hk0
 have HR0:=Aside0.mk hr0
 have HC0:=Aside0.mk hc0
 have HR1:=Aside0.mk hr1
 have HC1:=Aside0.mk hc1
 have HW:=Aside0.mk hw
 have HL:=Aside0.mk hl
 have hue:=Try.underlying25
 have huv:=Try.underlying28
 have hum:=Try.underlying58
 obtain ⟨W0,hW0⟩ : ∃ W,W = ((w.alloc (vBx (.slice A0 l0.length c0) a b c)).alloc (eBx' Ae l1.length ce d e f)).alloc (vBx (.slice none 0 0) 0 0 0):=⟨_,rfl⟩
 have hB0 : Below w.heap.size w W0:=by rw [hW0];exact below_alloc (below_alloc (below_alloc (Below.refl _ _) _) _) _
 have hs0 : W0.heap.size = w.heap.size + 3:=by rw [hW0];simp
 have hbv : W0.heap[w.heap.size]? = some (vBx (.slice A0 l0.length c0) a b c):=by
  rw [hW0]
  exact (Below.heap_alloc _ _ _ (by simp;omega)).trans ((Below.heap_alloc _ _ _ (by simp)).trans (World.alloc_heap_new w _))
 have hbe : W0.heap[w.heap.size + 1]? = some (eBx' Ae l1.length ce d e f):=by
  have h7:=World.alloc_heap_new (w.alloc (vBx (.slice A0 l0.length c0) a b c)) (eBx' Ae l1.length ce d e f)
  rw [World.size_alloc] at h7
  rw [hW0]
  exact (Below.heap_alloc _ _ _ (by simp)).trans h7
 have hbr : W0.heap[w.heap.size + 1 + 1]? = some (vBx (.slice none 0 0) 0 0 0):=by
  have h7:=World.alloc_heap_new ((w.alloc (vBx (.slice A0 l0.length c0) a b c)).alloc (eBx' Ae l1.length ce d e f)) (vBx (.slice none 0 0) 0 0 0)
  rw [World.size_alloc,World.size_alloc] at h7
  rw [hW0]
  exact h7
 have HW0:=Aside0.mk hW0
 have HB0:=Aside0.mk hB0
 have HS0:=Aside0.mk hs0
 have HBV:=Aside0.mk hbv
 have HBE:=Aside0.mk hbe
 have HBR:=Aside0.mk hbr
 have hz0 : W0.cell? ⟨w.heap.size,0,none⟩ = some (.slice A0 l0.length c0):=(blk_cell hbv 0).trans rfl
 rw [hW0] at hz0
 clear hr0 hc0 hr1 hc1 hw hl hW0 hB0 hs0 hbv hbe hbr
 go_enter Try.func15,Try.ntmps15
 go_wp2_with (first
    | (go_at_call 38;refine (clone_calls A0 c0 l0 _ (Kd.C_below HR0.out (show Below w.heap.size w _ by rw [← HW0.out];exact HB0.out)) HC0.out (by have:=HL.out;omega)).mono ?_;rintro e_ w1 ⟨v1,rfl,hv1,hd1⟩;rw [← HW0.out] at hv1 hd1;clear hz0;have hv2:=Kd.R_lower hv1 HB0.out.size;obtain ⟨A1,c1,e1⟩:=Kd.R_slice hv2;subst e1;have hbx:=(hd1.block _ (blk_lt HBV.out)).trans HBV.out;have hbe:=(hd1.block _ (blk_lt HBE.out)).trans HBE.out;have hx0:=(blk_cell hbx 0).trans rfl;have hf0:=blk_frozen hbx 0;have hy0:=(blk_cell hbe 0).trans rfl;have hy1:=(blk_cell hbe 1).trans rfl;have hy2:=(blk_cell hbe 2).trans rfl;have hy3:=(blk_cell hbe 3).trans rfl;have HST:=Aside0.mk (ast_one HB0.out hd1 HBV.out HBE.out HBR.out hv2 trivial);clear hv1 hv2 hd1 hbx hbe)
    | (go_at_call 17;refine (right_calls Ae ce l1 d e f _ (Kd.C_below HR1.out HST.out.bel) HC1.out HW.out).mono ?_;rw [HRB.out];rintro e_ w2 ⟨rfl,hd2⟩;have hst2:=HST.out.below hd2;clear hx0 hf0 hy0 hy1 hy2 hy3;have hx0:=(blk_cell hst2.vbx 0).trans rfl;have hx1:=(blk_cell hst2.vbx 1).trans rfl;have hx2:=(blk_cell hst2.vbx 2).trans rfl;have hx3:=(blk_cell hst2.vbx 3).trans rfl;have hy0:=(blk_cell hst2.ebx 0).trans rfl;have hy1:=(blk_cell hst2.ebx 1).trans rfl;have hy2:=(blk_cell hst2.ebx 2).trans rfl;have hy3:=(blk_cell hst2.ebx 3).trans rfl;have hr0:=(blk_cell hst2.rbx 0).trans rfl;have hr1:=(blk_cell hst2.rbx 1).trans rfl;have hr2:=(blk_cell hst2.rbx 2).trans rfl;have hr3:=(blk_cell hst2.rbx 3).trans rfl;have hq0:=blk_frozen hst2.rbx 0;have hq1:=blk_frozen hst2.rbx 1;have hq2:=blk_frozen hst2.rbx 2;have hq3:=blk_frozen hst2.rbx 3;have hv0:=blk_frozen hst2.vbx 0;have hv1:=blk_frozen hst2.vbx 1;have hv2:=blk_frozen hst2.vbx 2;have hv3:=blk_frozen hst2.vbx 3;have HS2:=Aside0.mk hst2;clear hd2 hst2)
    | (go_at_call 39;(with_reducible refine (falls_calls a d _).mono ?_);rw [HF1.out];rintro e_ w3 ⟨rfl,rfl⟩)
    | (go_at_call 39;(with_reducible refine (falls_calls b e _).mono ?_);rw [HF2.out];rintro e_ w3 ⟨rfl,rfl⟩)
    | (go_at_call 39;(with_reducible refine (falls_calls c f _).mono ?_);rw [HF3.out];rintro e_ w3 ⟨rfl,rfl⟩))
 have dn : decide (0 < (l0.length : Int)) = true:=decide_eq_true (by omega)
 have dm : decide (0 < (l1.length : Int)) = true:=decide_eq_true (by omega)
 have dn' : decide (0 < l0.length) = true:=decide_eq_true hn
 have dm' : decide (0 < l1.length) = true:=decide_eq_true hm
 obtain ⟨j,hj⟩ : ∃ j : Nat,l0.length = j + 1:=⟨l0.length - 1,by omega⟩
 obtain ⟨ad1,e1,h1,_⟩:=at_T58 (Kd.C_below HR1.out HS2.out.bel) 0 (Int.le_refl _) (by omega)
 obtain ⟨ad2,e2,h2,_⟩:=at_T58 (Kd.R_reads' HS2.out.row).2.2 (j : Int) (by omega) (by omega)
 have hlow : lowB l0 l1 = decide ((rd_T58 l1 0).f0 ≤ (rd_T58 l0 (j : Int)).f0):=by unfold lowB;rw [dn',dm',show ((l0.length : Int) - 1) = (j : Int) by omega];rfl
 have dle:=HLOW.out
 rw [hlow] at dle
 subst e1
 subst e2
 have h1' : w2.cell? ad1 = some (.int .u64 (rd_T58 l1 0).f0):=by simpa [Addr.add] using h1
 rw [Int.toNat_natCast] at h2
 have hwj : wrap64 ((l0.length : Int) - 1) = (j : Int):=by unfold wrap64;have:=HL.out;omega
 have hjl : (j : Int) < (l0.length : Int):=by omega
 have hjl' : j < l0.length:=by omega
 have hml : (0 : Int) < (l1.length : Int):=by omega
 generalize (rd_T58 l1 0).f0 = x at *
 generalize (rd_T58 l0 (j : Int)).f0 = y at *
 clear h1 hlow dn' dm' hj HLOW
 have hle:=of_decide_eq_false dle
 go_quiet (fail)
 go_wp2_with ((with_reducible refine gate_builtin (b:=.append) (xs:=#[.tmp 68,.tmp 70]) rfl ?_);at_builtin;refine Kd.R_append_rows k58 (w0:=w) w.heap.size rfl (.tmp 68) (.tmp 70) 22 58 (.agg #[.int .u64 0,.int .u64 0,.string ⟨#[]⟩,.string ⟨#[]⟩]) 48 rfl Try.underlying22 info58 rfl (by decide) (by decide) (.slice (some ad2) l0.length c1) l0 l1 _ _ _ (fun _=>True) (fun _=>False) rfl rfl ?aO ?aR (fun _ _ h=>h) (fun _ h=>h.elim) ?aF ?aB ?aS ?aL ?_;(case aO=>exact Kd.R_drewN HS2.out.row _);(case aR=>exact Kd.C_below HR1.out (pw_below_drewN HS2.out.bel _));(case aF=>exact (fun _ _=>trivial));(case aB=>exact pw_below_drewN HS2.out.bel _);(case aS=>exact HS2.out.bel.size);(case aL=>have h5:=HL.out;have h6:=(right_fit' HRB.out).1;omega);intro v5 w5 ho hb hg hat;clear hx0 hx1 hx2 hx3 hy0 hy1 hy2 hy3 hr0 hr1 hr2 hr3 hq0 hq1 hq2 hq3 hv0 hv1 hv2 hv3;obtain ⟨A5,c5,e5⟩:=Kd.R_slice ho;generalize hN : (l0 ++ l1).length = n5 at e5;subst e5;have HO5:=Aside0.mk ho;have HN5:=Aside0.mk hN;have hs5:=ast_grown HS2.out hg HS2.out.ne;have HB5:=Aside0.mk hb;have HS5:=Aside0.mk hs5;have hx0:=(blk_cell hs5.1 0).trans rfl;have hx1:=(blk_cell hs5.1 1).trans rfl;have hx2:=(blk_cell hs5.1 2).trans rfl;have hx3:=(blk_cell hs5.1 3).trans rfl;have hy1:=(blk_cell hs5.2.1 1).trans rfl;have hy2:=(blk_cell hs5.2.1 2).trans rfl;have hy3:=(blk_cell hs5.2.1 3).trans rfl;have hr0:=(blk_cell hs5.2.2 0).trans rfl;have hr1:=(blk_cell hs5.2.2 1).trans rfl;have hr2:=(blk_cell hs5.2.2 2).trans rfl;have hr3:=(blk_cell hs5.2.2 3).trans rfl;have hq0:=blk_frozen hs5.2.2 0;have hq1:=blk_frozen hs5.2.2 1;have hq2:=blk_frozen hs5.2.2 2;have hq3:=blk_frozen hs5.2.2 3;have hv0:=blk_frozen hs5.1 0;have hv1:=blk_frozen hs5.1 1;have hv2:=blk_frozen hs5.1 2;have hv3:=blk_frozen hs5.1 3;clear ho hb hg hat hN hs5)
 obtain ⟨W5,hW5⟩ : ∃ W,W = w5.setCell ⟨w.heap.size,0,none⟩ (.slice A5 n5 c5):=⟨_,rfl⟩
 rw [show w5.setCell ⟨w.heap.size,0,none⟩ (.slice A5 n5 c5) = W5 from hW5.symm]
 have hs6 : ASt w (.slice A5 n5 c5) (l0 ++ l1) a b c (some ad1) l1 ce d e f W5:=by rw [hW5];exact ast_put HS5.out HO5.out HB5.out
 have HS6:=Aside0.mk hs6
 clear hx0 hx1 hx2 hx3 hy1 hy2 hy3 hr0 hr1 hr2 hr3 hq0 hq1 hq2 hq3 hv0 hv1 hv2 hv3
 have hx1:=(blk_cell hs6.vbx 1).trans rfl
 have hx2:=(blk_cell hs6.vbx 2).trans rfl
 have hx3:=(blk_cell hs6.vbx 3).trans rfl
 have hy1:=(blk_cell hs6.ebx 1).trans rfl
 have hy2:=(blk_cell hs6.ebx 2).trans rfl
 have hy3:=(blk_cell hs6.ebx 3).trans rfl
 have hv1:=blk_frozen hs6.vbx 1
 have hv2:=blk_frozen hs6.vbx 2
 have hv3:=blk_frozen hs6.vbx 3
 clear hs6 hW5
 obtain ⟨K9,hK9⟩ : ∃ K : Act → World → Prop,K = fun (a' : Act) (w' : World)=>(a'.tmps.size = 92 ∧ a'.defers = [] ∧ a'.tmps.getD 2 undef = .pointer (some ⟨w.heap.size,0,none⟩) ∧ a'.tmps.getD 3 undef = .pointer (some ⟨w.heap.size + 1,0,none⟩) ∧ a'.tmps.getD 4 undef = .pointer (some ⟨w.heap.size + 1 + 1,0,none⟩)) ∧ ASt w (.slice A5 n5 c5) (l0 ++ l1) x9 y9 z9 (some ad1) l1 ce d e f w':=⟨_,rfl⟩
 have HK9:=Aside0.mk hK9
 have HKI : Aside0 (∀ (a' : Act) (w' : World),(a'.tmps.size = 92 ∧ a'.defers = [] ∧ a'.tmps.getD 2 undef = .pointer (some ⟨w.heap.size,0,none⟩) ∧ a'.tmps.getD 3 undef = .pointer (some ⟨w.heap.size + 1,0,none⟩) ∧ a'.tmps.getD 4 undef = .pointer (some ⟨w.heap.size + 1 + 1,0,none⟩)) → ASt w (.slice A5 n5 c5) (l0 ++ l1) x9 y9 z9 (some ad1) l1 ce d e f w' → K9 a' w'):=⟨fun a' w' h1 h2=>by rw [hK9];exact ⟨h1,h2⟩⟩
 clear hK9
 refine Code.wp_mono (Q:=Exit.then K9 (fun _ _ _=>False)) ?hq ?hw
 case hw =>
  have HS8:=Aside0.mk (ast_nums9 HX9.out HY9.out HZ9.out HS6.out)
  go_region
  exact HKI.out _ _ ⟨rfl,rfl,rfl,rfl,rfl⟩ HS8.out
 case hq =>
  intro e' a' w' hR
  cases e'
  case normal =>
   have hR : K9 a' w':=hR
   rw [HK9.out] at hR
   obtain ⟨⟨h1,h2,h3,h4,h5⟩,hs8⟩:=hR
   obtain ⟨u,hu,hk⟩:=to_fun a' h1 h2
   rw [(hk 2).trans h3,(hk 3).trans h4,(hk 4).trans h5] at hu
   clear h1 h2 h3 h4 h5 hk
   subst hu
   clear hx1 hx2 hx3 hy1 hy2 hy3 hv1 hv2 hv3
   have hx0:=(blk_cell hs8.vbx 0).trans rfl
   have hx1:=(blk_cell hs8.vbx 1).trans rfl
   have hx2:=(blk_cell hs8.vbx 2).trans rfl
   have hx3:=(blk_cell hs8.vbx 3).trans rfl
   have hr0:=(blk_cell hs8.rbx 0).trans rfl
   have hr1:=(blk_cell hs8.rbx 1).trans rfl
   have hr2:=(blk_cell hs8.rbx 2).trans rfl
   have hr3:=(blk_cell hs8.rbx 3).trans rfl
   have hq0:=blk_frozen hs8.rbx 0
   have hq1:=blk_frozen hs8.rbx 1
   have hq2:=blk_frozen hs8.rbx 2
   have hq3:=blk_frozen hs8.rbx 3
   have HS8:=Aside0.mk hs8
   clear hs8
   go_wp2
   refine bodyPost_ret (results_ct rfl _ _ (w.heap.size + 1 + 1) 28 #[.slice A5 n5 c5,.int .u64 x9,.int .u64 y9,.int .u64 z9] (0,0) _ rfl (blk_put (cs':=#[.slice A5 n5 c5,.int .u64 x9,.int .u64 y9,.int .u64 z9]) (blk_put (cs':=#[.slice A5 n5 c5,.int .u64 x9,.int .u64 y9,.int .u64 0]) (blk_put (cs':=#[.slice A5 n5 c5,.int .u64 x9,.int .u64 0,.int .u64 0]) (blk_put (cs':=#[.slice A5 n5 c5,.int .u64 0,.int .u64 0,.int .u64 0]) HS8.out.rbx 0 _ rfl) 1 _ rfl) 2 _ rfl) 3 _ rfl) huv rfl (by kernel_rfl)) rfl ?_
   exact ⟨_,rfl,Kd.R_mono (Kd.R_far (p:=⟨w.heap.size + 1 + 1,3,none⟩) (Kd.R_far (p:=⟨w.heap.size + 1 + 1,2,none⟩) (Kd.R_far (p:=⟨w.heap.size + 1 + 1,1,none⟩) (Kd.R_far (p:=⟨w.heap.size + 1 + 1,0,none⟩) (Kd.R_types HS8.out.row HS8.out.rbx (by decide)) (fun k hk=>hk.2) _) (fun k hk=>hk.2) _) (fun k hk=>hk.2) _) (fun k hk=>hk.2) _) (fun _ _=>trivial),(((HS8.out.bel.setCell (p:=⟨w.heap.size + 1 + 1,0,none⟩) (by show w.heap.size ≤ w.heap.size + 1 + 1;omega) _).setCell (p:=⟨w.heap.size + 1 + 1,1,none⟩) (by show w.heap.size ≤ w.heap.size + 1 + 1;omega) _).setCell (p:=⟨w.heap.size + 1 + 1,2,none⟩) (by show w.heap.size ≤ w.heap.size + 1 + 1;omega) _).setCell (p:=⟨w.heap.size + 1 + 1,3,none⟩) (by show w.heap.size ≤ w.heap.size + 1 + 1;omega) _⟩
  all_goals exact False.elim hR

end Go.Proofs.YtcagajobpnpicaaG

end

section
set_option linter.unusedVariables false
set_option linter.unusedSimpArgs false
namespace Go.Proofs.YtcagajobpnpicaaG
open Go Go.RowKit Go.Proofs.YtcagajobpnpicaaR Go.Proofs.YtcagajobpnpicaaL Go.Proofs.Ytcagajobpnpicaa.P Go.Proofs.YtcagajobpnpicaaW.PrintWords Go.Proofs.YtcagajobpnpicaaW.PrintMore
attribute [local go_sem] Oper.semAt_some max2_int

attribute [local go_sem] max2_int
set_option maxRecDepth 100000 in
set_option maxHeartbeats 8000000 in
theorem apply_ok_b (A0 : Option Addr) (c0 : Nat) (l0 : List MetaS) (a b c : Int) (Ae : Option Addr) (ce : Nat) (l1 : List MetaS) (d e f : Int) (w : World) (hr0 : Kd.C k58 w A0 l0.length l0) (hc0 : l0.length ≤ c0) (hr1 : Kd.C k58 w Ae l1.length l1) (hc1 : l1.length ≤ ce) (hw : WfE l1 d e f) (hl : l0.length + 64 < 2932031007402) (hk0 : okB l0 a b c l1 d e f = true) (x9 y9 z9 : Int) (hx9 : mx a d = x9) (hy9 : mx b e = y9) (hz9 : mx c f = z9) (hn : 0 < l0.length) (hm : ¬ 0 < l1.length) :
  Calls Try.prog 15 #[.agg #[.slice A0 l0.length c0,.int .u64 a,.int .u64 b,.int .u64 c],.agg #[.slice Ae l1.length ce,.int .u64 d,.int .u64 e,.int .u64 f]] w fun e_ w'=>∃ v0_ : Value,e_ = .returned (.tuple #[.agg #[v0_,.int .u64 x9,.int .u64 y9,.int .u64 z9],.int .i64 0]) ∧ Kd.R k58 58 w' w.heap.size (fun _=>True) v0_ (l0 ++ l1) ∧ Below w.heap.size w w':=by
 have hall : rightB l1 d e f = true ∧ fallsB a d = false ∧ fallsB b e = false ∧ fallsB c f = false ∧ lowB l0 l1 = false:=by
  unfold okB at hk0
  simp only [Bool.and_eq_true,Bool.not_eq_true'] at hk0
  exact ⟨hk0.1.1.1.1,hk0.1.1.1.2,hk0.1.1.2,hk0.1.2,hk0.2⟩
 have HX9:=Aside0.mk hx9
 have HY9:=Aside0.mk hy9
 have HZ9:=Aside0.mk hz9
 clear hx9 hy9 hz9
 have HRB:=Aside0.mk hall.1
 have HF1:=Aside0.mk hall.2.1
 have HF2:=Aside0.mk hall.2.2.1
 have HF3:=Aside0.mk hall.2.2.2.1
 have HLOW:=Aside0.mk hall.2.2.2.2
 clear hall hk0
 have HR0:=Aside0.mk hr0
 have HC0:=Aside0.mk hc0
 have HR1:=Aside0.mk hr1
 have HC1:=Aside0.mk hc1
 have HW:=Aside0.mk hw
 have HL:=Aside0.mk hl
 have hue:=Try.underlying25
 have huv:=Try.underlying28
 have hum:=Try.underlying58
 obtain ⟨W0,hW0⟩ : ∃ W,W = ((w.alloc (vBx (.slice A0 l0.length c0) a b c)).alloc (eBx' Ae l1.length ce d e f)).alloc (vBx (.slice none 0 0) 0 0 0):=⟨_,rfl⟩
 have hB0 : Below w.heap.size w W0:=by rw [hW0];exact below_alloc (below_alloc (below_alloc (Below.refl _ _) _) _) _
 have hs0 : W0.heap.size = w.heap.size + 3:=by rw [hW0];simp
 have hbv : W0.heap[w.heap.size]? = some (vBx (.slice A0 l0.length c0) a b c):=by
  rw [hW0]
  exact (Below.heap_alloc _ _ _ (by simp;omega)).trans ((Below.heap_alloc _ _ _ (by simp)).trans (World.alloc_heap_new w _))
 have hbe : W0.heap[w.heap.size + 1]? = some (eBx' Ae l1.length ce d e f):=by
  have h7:=World.alloc_heap_new (w.alloc (vBx (.slice A0 l0.length c0) a b c)) (eBx' Ae l1.length ce d e f)
  rw [World.size_alloc] at h7
  rw [hW0]
  exact (Below.heap_alloc _ _ _ (by simp)).trans h7
 have hbr : W0.heap[w.heap.size + 1 + 1]? = some (vBx (.slice none 0 0) 0 0 0):=by
  have h7:=World.alloc_heap_new ((w.alloc (vBx (.slice A0 l0.length c0) a b c)).alloc (eBx' Ae l1.length ce d e f)) (vBx (.slice none 0 0) 0 0 0)
  rw [World.size_alloc,World.size_alloc] at h7
  rw [hW0]
  exact h7
 have HW0:=Aside0.mk hW0
 have HB0:=Aside0.mk hB0
 have HS0:=Aside0.mk hs0
 have HBV:=Aside0.mk hbv
 have HBE:=Aside0.mk hbe
 have HBR:=Aside0.mk hbr
 have hz0 : W0.cell? ⟨w.heap.size,0,none⟩ = some (.slice A0 l0.length c0):=(blk_cell hbv 0).trans rfl
 rw [hW0] at hz0
 clear hr0 hc0 hr1 hc1 hw hl hW0 hB0 hs0 hbv hbe hbr
 go_enter Try.func15,Try.ntmps15
 go_wp2_with (first
    | (go_at_call 38;refine (clone_calls A0 c0 l0 _ (Kd.C_below HR0.out (show Below w.heap.size w _ by rw [← HW0.out];exact HB0.out)) HC0.out (by have:=HL.out;omega)).mono ?_;rintro e_ w1 ⟨v1,rfl,hv1,hd1⟩;rw [← HW0.out] at hv1 hd1;clear hz0;have hv2:=Kd.R_lower hv1 HB0.out.size;obtain ⟨A1,c1,e1⟩:=Kd.R_slice hv2;subst e1;have hbx:=(hd1.block _ (blk_lt HBV.out)).trans HBV.out;have hbe:=(hd1.block _ (blk_lt HBE.out)).trans HBE.out;have hx0:=(blk_cell hbx 0).trans rfl;have hf0:=blk_frozen hbx 0;have hy0:=(blk_cell hbe 0).trans rfl;have hy1:=(blk_cell hbe 1).trans rfl;have hy2:=(blk_cell hbe 2).trans rfl;have hy3:=(blk_cell hbe 3).trans rfl;have HST:=Aside0.mk (ast_one HB0.out hd1 HBV.out HBE.out HBR.out hv2 trivial);clear hv1 hv2 hd1 hbx hbe)
    | (go_at_call 17;refine (right_calls Ae ce l1 d e f _ (Kd.C_below HR1.out HST.out.bel) HC1.out HW.out).mono ?_;rw [HRB.out];rintro e_ w2 ⟨rfl,hd2⟩;have hst2:=HST.out.below hd2;clear hx0 hf0 hy0 hy1 hy2 hy3;have hx0:=(blk_cell hst2.vbx 0).trans rfl;have hx1:=(blk_cell hst2.vbx 1).trans rfl;have hx2:=(blk_cell hst2.vbx 2).trans rfl;have hx3:=(blk_cell hst2.vbx 3).trans rfl;have hy0:=(blk_cell hst2.ebx 0).trans rfl;have hy1:=(blk_cell hst2.ebx 1).trans rfl;have hy2:=(blk_cell hst2.ebx 2).trans rfl;have hy3:=(blk_cell hst2.ebx 3).trans rfl;have hr0:=(blk_cell hst2.rbx 0).trans rfl;have hr1:=(blk_cell hst2.rbx 1).trans rfl;have hr2:=(blk_cell hst2.rbx 2).trans rfl;have hr3:=(blk_cell hst2.rbx 3).trans rfl;have hq0:=blk_frozen hst2.rbx 0;have hq1:=blk_frozen hst2.rbx 1;have hq2:=blk_frozen hst2.rbx 2;have hq3:=blk_frozen hst2.rbx 3;have hv0:=blk_frozen hst2.vbx 0;have hv1:=blk_frozen hst2.vbx 1;have hv2:=blk_frozen hst2.vbx 2;have hv3:=blk_frozen hst2.vbx 3;have HS2:=Aside0.mk hst2;clear hd2 hst2)
    | (go_at_call 39;(with_reducible refine (falls_calls a d _).mono ?_);rw [HF1.out];rintro e_ w3 ⟨rfl,rfl⟩)
    | (go_at_call 39;(with_reducible refine (falls_calls b e _).mono ?_);rw [HF2.out];rintro e_ w3 ⟨rfl,rfl⟩)
    | (go_at_call 39;(with_reducible refine (falls_calls c f _).mono ?_);rw [HF3.out];rintro e_ w3 ⟨rfl,rfl⟩))
 have dn : decide (0 < (l0.length : Int)) = true:=decide_eq_true (by omega)
 have dm : decide (0 < (l1.length : Int)) = false:=decide_eq_false (by omega)
 clear HLOW
 go_quiet (fail)
 go_wp2_with ((with_reducible refine gate_builtin (b:=.append) (xs:=#[.tmp 68,.tmp 70]) rfl ?_);at_builtin;refine Kd.R_append_rows k58 (w0:=w) w.heap.size rfl (.tmp 68) (.tmp 70) 22 58 (.agg #[.int .u64 0,.int .u64 0,.string ⟨#[]⟩,.string ⟨#[]⟩]) 48 rfl Try.underlying22 info58 rfl (by decide) (by decide) (.slice A1 l0.length c1) l0 l1 _ _ _ (fun _=>True) (fun _=>False) rfl rfl ?aO ?aR (fun _ _ h=>h) (fun _ h=>h.elim) ?aF ?aB ?aS ?aL ?_;(case aO=>exact Kd.R_drewN HS2.out.row _);(case aR=>exact Kd.C_below HR1.out (pw_below_drewN HS2.out.bel _));(case aF=>exact (fun _ _=>trivial));(case aB=>exact pw_below_drewN HS2.out.bel _);(case aS=>exact HS2.out.bel.size);(case aL=>have h5:=HL.out;have h6:=(right_fit' HRB.out).1;omega);intro v5 w5 ho hb hg hat;clear hx0 hx1 hx2 hx3 hy0 hy1 hy2 hy3 hr0 hr1 hr2 hr3 hq0 hq1 hq2 hq3 hv0 hv1 hv2 hv3;obtain ⟨A5,c5,e5⟩:=Kd.R_slice ho;generalize hN : (l0 ++ l1).length = n5 at e5;subst e5;have HO5:=Aside0.mk ho;have HN5:=Aside0.mk hN;have hs5:=ast_grown HS2.out hg HS2.out.ne;have HB5:=Aside0.mk hb;have HS5:=Aside0.mk hs5;have hx0:=(blk_cell hs5.1 0).trans rfl;have hx1:=(blk_cell hs5.1 1).trans rfl;have hx2:=(blk_cell hs5.1 2).trans rfl;have hx3:=(blk_cell hs5.1 3).trans rfl;have hy1:=(blk_cell hs5.2.1 1).trans rfl;have hy2:=(blk_cell hs5.2.1 2).trans rfl;have hy3:=(blk_cell hs5.2.1 3).trans rfl;have hr0:=(blk_cell hs5.2.2 0).trans rfl;have hr1:=(blk_cell hs5.2.2 1).trans rfl;have hr2:=(blk_cell hs5.2.2 2).trans rfl;have hr3:=(blk_cell hs5.2.2 3).trans rfl;have hq0:=blk_frozen hs5.2.2 0;have hq1:=blk_frozen hs5.2.2 1;have hq2:=blk_frozen hs5.2.2 2;have hq3:=blk_frozen hs5.2.2 3;have hv0:=blk_frozen hs5.1 0;have hv1:=blk_frozen hs5.1 1;have hv2:=blk_frozen hs5.1 2;have hv3:=blk_frozen hs5.1 3;clear ho hb hg hat hN hs5)
 obtain ⟨W5,hW5⟩ : ∃ W,W = w5.setCell ⟨w.heap.size,0,none⟩ (.slice A5 n5 c5):=⟨_,rfl⟩
 rw [show w5.setCell ⟨w.heap.size,0,none⟩ (.slice A5 n5 c5) = W5 from hW5.symm]
 have hs6 : ASt w (.slice A5 n5 c5) (l0 ++ l1) a b c Ae l1 ce d e f W5:=by rw [hW5];exact ast_put HS5.out HO5.out HB5.out
 have HS6:=Aside0.mk hs6
 clear hx0 hx1 hx2 hx3 hy1 hy2 hy3 hr0 hr1 hr2 hr3 hq0 hq1 hq2 hq3 hv0 hv1 hv2 hv3
 have hx1:=(blk_cell hs6.vbx 1).trans rfl
 have hx2:=(blk_cell hs6.vbx 2).trans rfl
 have hx3:=(blk_cell hs6.vbx 3).trans rfl
 have hy1:=(blk_cell hs6.ebx 1).trans rfl
 have hy2:=(blk_cell hs6.ebx 2).trans rfl
 have hy3:=(blk_cell hs6.ebx 3).trans rfl
 have hv1:=blk_frozen hs6.vbx 1
 have hv2:=blk_frozen hs6.vbx 2
 have hv3:=blk_frozen hs6.vbx 3
 clear hs6 hW5
 obtain ⟨K9,hK9⟩ : ∃ K : Act → World → Prop,K = fun (a' : Act) (w' : World)=>(a'.tmps.size = 92 ∧ a'.defers = [] ∧ a'.tmps.getD 2 undef = .pointer (some ⟨w.heap.size,0,none⟩) ∧ a'.tmps.getD 3 undef = .pointer (some ⟨w.heap.size + 1,0,none⟩) ∧ a'.tmps.getD 4 undef = .pointer (some ⟨w.heap.size + 1 + 1,0,none⟩)) ∧ ASt w (.slice A5 n5 c5) (l0 ++ l1) x9 y9 z9 Ae l1 ce d e f w':=⟨_,rfl⟩
 have HK9:=Aside0.mk hK9
 have HKI : Aside0 (∀ (a' : Act) (w' : World),(a'.tmps.size = 92 ∧ a'.defers = [] ∧ a'.tmps.getD 2 undef = .pointer (some ⟨w.heap.size,0,none⟩) ∧ a'.tmps.getD 3 undef = .pointer (some ⟨w.heap.size + 1,0,none⟩) ∧ a'.tmps.getD 4 undef = .pointer (some ⟨w.heap.size + 1 + 1,0,none⟩)) → ASt w (.slice A5 n5 c5) (l0 ++ l1) x9 y9 z9 Ae l1 ce d e f w' → K9 a' w'):=⟨fun a' w' h1 h2=>by rw [hK9];exact ⟨h1,h2⟩⟩
 clear hK9
 refine Code.wp_mono (Q:=Exit.then K9 (fun _ _ _=>False)) ?hq ?hw
 case hw =>
  have HS8:=Aside0.mk (ast_nums9 HX9.out HY9.out HZ9.out HS6.out)
  go_region
  exact HKI.out _ _ ⟨rfl,rfl,rfl,rfl,rfl⟩ HS8.out
 case hq =>
  intro e' a' w' hR
  cases e'
  case normal =>
   have hR : K9 a' w':=hR
   rw [HK9.out] at hR
   obtain ⟨⟨h1,h2,h3,h4,h5⟩,hs8⟩:=hR
   obtain ⟨u,hu,hk⟩:=to_fun a' h1 h2
   rw [(hk 2).trans h3,(hk 3).trans h4,(hk 4).trans h5] at hu
   clear h1 h2 h3 h4 h5 hk
   subst hu
   clear hx1 hx2 hx3 hy1 hy2 hy3 hv1 hv2 hv3
   have hx0:=(blk_cell hs8.vbx 0).trans rfl
   have hx1:=(blk_cell hs8.vbx 1).trans rfl
   have hx2:=(blk_cell hs8.vbx 2).trans rfl
   have hx3:=(blk_cell hs8.vbx 3).trans rfl
   have hr0:=(blk_cell hs8.rbx 0).trans rfl
   have hr1:=(blk_cell hs8.rbx 1).trans rfl
   have hr2:=(blk_cell hs8.rbx 2).trans rfl
   have hr3:=(blk_cell hs8.rbx 3).trans rfl
   have hq0:=blk_frozen hs8.rbx 0
   have hq1:=blk_frozen hs8.rbx 1
   have hq2:=blk_frozen hs8.rbx 2
   have hq3:=blk_frozen hs8.rbx 3
   have HS8:=Aside0.mk hs8
   clear hs8
   go_wp2
   refine bodyPost_ret (results_ct rfl _ _ (w.heap.size + 1 + 1) 28 #[.slice A5 n5 c5,.int .u64 x9,.int .u64 y9,.int .u64 z9] (0,0) _ rfl (blk_put (cs':=#[.slice A5 n5 c5,.int .u64 x9,.int .u64 y9,.int .u64 z9]) (blk_put (cs':=#[.slice A5 n5 c5,.int .u64 x9,.int .u64 y9,.int .u64 0]) (blk_put (cs':=#[.slice A5 n5 c5,.int .u64 x9,.int .u64 0,.int .u64 0]) (blk_put (cs':=#[.slice A5 n5 c5,.int .u64 0,.int .u64 0,.int .u64 0]) HS8.out.rbx 0 _ rfl) 1 _ rfl) 2 _ rfl) 3 _ rfl) huv rfl (by kernel_rfl)) rfl ?_
   exact ⟨_,rfl,Kd.R_mono (Kd.R_far (p:=⟨w.heap.size + 1 + 1,3,none⟩) (Kd.R_far (p:=⟨w.heap.size + 1 + 1,2,none⟩) (Kd.R_far (p:=⟨w.heap.size + 1 + 1,1,none⟩) (Kd.R_far (p:=⟨w.heap.size + 1 + 1,0,none⟩) (Kd.R_types HS8.out.row HS8.out.rbx (by decide)) (fun k hk=>hk.2) _) (fun k hk=>hk.2) _) (fun k hk=>hk.2) _) (fun k hk=>hk.2) _) (fun _ _=>trivial),(((HS8.out.bel.setCell (p:=⟨w.heap.size + 1 + 1,0,none⟩) (by show w.heap.size ≤ w.heap.size + 1 + 1;omega) _).setCell (p:=⟨w.heap.size + 1 + 1,1,none⟩) (by show w.heap.size ≤ w.heap.size + 1 + 1;omega) _).setCell (p:=⟨w.heap.size + 1 + 1,2,none⟩) (by show w.heap.size ≤ w.heap.size + 1 + 1;omega) _).setCell (p:=⟨w.heap.size + 1 + 1,3,none⟩) (by show w.heap.size ≤ w.heap.size + 1 + 1;omega) _⟩
  all_goals exact False.elim hR

end Go.Proofs.YtcagajobpnpicaaG

end

section
set_option linter.unusedVariables false
set_option linter.unusedSimpArgs false
namespace Go.Proofs.YtcagajobpnpicaaG
open Go Go.RowKit Go.Proofs.YtcagajobpnpicaaR Go.Proofs.YtcagajobpnpicaaL Go.Proofs.Ytcagajobpnpicaa.P Go.Proofs.YtcagajobpnpicaaW.PrintWords Go.Proofs.YtcagajobpnpicaaW.PrintMore
attribute [local go_sem] Oper.semAt_some max2_int

attribute [local go_sem] max2_int
set_option maxRecDepth 100000 in
set_option maxHeartbeats 8000000 in
theorem apply_ok_c (A0 : Option Addr) (c0 : Nat) (l0 : List MetaS) (a b c : Int) (Ae : Option Addr) (ce : Nat) (l1 : List MetaS) (d e f : Int) (w : World) (hr0 : Kd.C k58 w A0 l0.length l0) (hc0 : l0.length ≤ c0) (hr1 : Kd.C k58 w Ae l1.length l1) (hc1 : l1.length ≤ ce) (hw : WfE l1 d e f) (hl : l0.length + 64 < 2932031007402) (hk0 : okB l0 a b c l1 d e f = true) (x9 y9 z9 : Int) (hx9 : mx a d = x9) (hy9 : mx b e = y9) (hz9 : mx c f = z9) (hn : ¬ 0 < l0.length) :
  Calls Try.prog 15 #[.agg #[.slice A0 l0.length c0,.int .u64 a,.int .u64 b,.int .u64 c],.agg #[.slice Ae l1.length ce,.int .u64 d,.int .u64 e,.int .u64 f]] w fun e_ w'=>∃ v0_ : Value,e_ = .returned (.tuple #[.agg #[v0_,.int .u64 x9,.int .u64 y9,.int .u64 z9],.int .i64 0]) ∧ Kd.R k58 58 w' w.heap.size (fun _=>True) v0_ (l0 ++ l1) ∧ Below w.heap.size w w':=by
 have hall : rightB l1 d e f = true ∧ fallsB a d = false ∧ fallsB b e = false ∧ fallsB c f = false ∧ lowB l0 l1 = false:=by
  unfold okB at hk0
  simp only [Bool.and_eq_true,Bool.not_eq_true'] at hk0
  exact ⟨hk0.1.1.1.1,hk0.1.1.1.2,hk0.1.1.2,hk0.1.2,hk0.2⟩
 have HX9:=Aside0.mk hx9
 have HY9:=Aside0.mk hy9
 have HZ9:=Aside0.mk hz9
 clear hx9 hy9 hz9
 have HRB:=Aside0.mk hall.1
 have HF1:=Aside0.mk hall.2.1
 have HF2:=Aside0.mk hall.2.2.1
 have HF3:=Aside0.mk hall.2.2.2.1
 have HLOW:=Aside0.mk hall.2.2.2.2
 clear hall hk0
 have HR0:=Aside0.mk hr0
 have HC0:=Aside0.mk hc0
 have HR1:=Aside0.mk hr1
 have HC1:=Aside0.mk hc1
 have HW:=Aside0.mk hw
 have HL:=Aside0.mk hl
 have hue:=Try.underlying25
 have huv:=Try.underlying28
 have hum:=Try.underlying58
 obtain ⟨W0,hW0⟩ : ∃ W,W = ((w.alloc (vBx (.slice A0 l0.length c0) a b c)).alloc (eBx' Ae l1.length ce d e f)).alloc (vBx (.slice none 0 0) 0 0 0):=⟨_,rfl⟩
 have hB0 : Below w.heap.size w W0:=by rw [hW0];exact below_alloc (below_alloc (below_alloc (Below.refl _ _) _) _) _
 have hs0 : W0.heap.size = w.heap.size + 3:=by rw [hW0];simp
 have hbv : W0.heap[w.heap.size]? = some (vBx (.slice A0 l0.length c0) a b c):=by
  rw [hW0]
  exact (Below.heap_alloc _ _ _ (by simp;omega)).trans ((Below.heap_alloc _ _ _ (by simp)).trans (World.alloc_heap_new w _))
 have hbe : W0.heap[w.heap.size + 1]? = some (eBx' Ae l1.length ce d e f):=by
  have h7:=World.alloc_heap_new (w.alloc (vBx (.slice A0 l0.length c0) a b c)) (eBx' Ae l1.length ce d e f)
  rw [World.size_alloc] at h7
  rw [hW0]
  exact (Below.heap_alloc _ _ _ (by simp)).trans h7
 have hbr : W0.heap[w.heap.size + 1 + 1]? = some (vBx (.slice none 0 0) 0 0 0):=by
  have h7:=World.alloc_heap_new ((w.alloc (vBx (.slice A0 l0.length c0) a b c)).alloc (eBx' Ae l1.length ce d e f)) (vBx (.slice none 0 0) 0 0 0)
  rw [World.size_alloc,World.size_alloc] at h7
  rw [hW0]
  exact h7
 have HW0:=Aside0.mk hW0
 have HB0:=Aside0.mk hB0
 have HS0:=Aside0.mk hs0
 have HBV:=Aside0.mk hbv
 have HBE:=Aside0.mk hbe
 have HBR:=Aside0.mk hbr
 have hz0 : W0.cell? ⟨w.heap.size,0,none⟩ = some (.slice A0 l0.length c0):=(blk_cell hbv 0).trans rfl
 rw [hW0] at hz0
 clear hr0 hc0 hr1 hc1 hw hl hW0 hB0 hs0 hbv hbe hbr
 go_enter Try.func15,Try.ntmps15
 go_wp2_with (first
    | (go_at_call 38;refine (clone_calls A0 c0 l0 _ (Kd.C_below HR0.out (show Below w.heap.size w _ by rw [← HW0.out];exact HB0.out)) HC0.out (by have:=HL.out;omega)).mono ?_;rintro e_ w1 ⟨v1,rfl,hv1,hd1⟩;rw [← HW0.out] at hv1 hd1;clear hz0;have hv2:=Kd.R_lower hv1 HB0.out.size;obtain ⟨A1,c1,e1⟩:=Kd.R_slice hv2;subst e1;have hbx:=(hd1.block _ (blk_lt HBV.out)).trans HBV.out;have hbe:=(hd1.block _ (blk_lt HBE.out)).trans HBE.out;have hx0:=(blk_cell hbx 0).trans rfl;have hf0:=blk_frozen hbx 0;have hy0:=(blk_cell hbe 0).trans rfl;have hy1:=(blk_cell hbe 1).trans rfl;have hy2:=(blk_cell hbe 2).trans rfl;have hy3:=(blk_cell hbe 3).trans rfl;have HST:=Aside0.mk (ast_one HB0.out hd1 HBV.out HBE.out HBR.out hv2 trivial);clear hv1 hv2 hd1 hbx hbe)
    | (go_at_call 17;refine (right_calls Ae ce l1 d e f _ (Kd.C_below HR1.out HST.out.bel) HC1.out HW.out).mono ?_;rw [HRB.out];rintro e_ w2 ⟨rfl,hd2⟩;have hst2:=HST.out.below hd2;clear hx0 hf0 hy0 hy1 hy2 hy3;have hx0:=(blk_cell hst2.vbx 0).trans rfl;have hx1:=(blk_cell hst2.vbx 1).trans rfl;have hx2:=(blk_cell hst2.vbx 2).trans rfl;have hx3:=(blk_cell hst2.vbx 3).trans rfl;have hy0:=(blk_cell hst2.ebx 0).trans rfl;have hy1:=(blk_cell hst2.ebx 1).trans rfl;have hy2:=(blk_cell hst2.ebx 2).trans rfl;have hy3:=(blk_cell hst2.ebx 3).trans rfl;have hr0:=(blk_cell hst2.rbx 0).trans rfl;have hr1:=(blk_cell hst2.rbx 1).trans rfl;have hr2:=(blk_cell hst2.rbx 2).trans rfl;have hr3:=(blk_cell hst2.rbx 3).trans rfl;have hq0:=blk_frozen hst2.rbx 0;have hq1:=blk_frozen hst2.rbx 1;have hq2:=blk_frozen hst2.rbx 2;have hq3:=blk_frozen hst2.rbx 3;have hv0:=blk_frozen hst2.vbx 0;have hv1:=blk_frozen hst2.vbx 1;have hv2:=blk_frozen hst2.vbx 2;have hv3:=blk_frozen hst2.vbx 3;have HS2:=Aside0.mk hst2;clear hd2 hst2)
    | (go_at_call 39;(with_reducible refine (falls_calls a d _).mono ?_);rw [HF1.out];rintro e_ w3 ⟨rfl,rfl⟩)
    | (go_at_call 39;(with_reducible refine (falls_calls b e _).mono ?_);rw [HF2.out];rintro e_ w3 ⟨rfl,rfl⟩)
    | (go_at_call 39;(with_reducible refine (falls_calls c f _).mono ?_);rw [HF3.out];rintro e_ w3 ⟨rfl,rfl⟩))
 have dn : decide (0 < (l0.length : Int)) = false:=decide_eq_false (by omega)
 clear HLOW
 go_quiet (fail)
 go_wp2_with ((with_reducible refine gate_builtin (b:=.append) (xs:=#[.tmp 68,.tmp 70]) rfl ?_);at_builtin;refine Kd.R_append_rows k58 (w0:=w) w.heap.size rfl (.tmp 68) (.tmp 70) 22 58 (.agg #[.int .u64 0,.int .u64 0,.string ⟨#[]⟩,.string ⟨#[]⟩]) 48 rfl Try.underlying22 info58 rfl (by decide) (by decide) (.slice A1 l0.length c1) l0 l1 _ _ _ (fun _=>True) (fun _=>False) rfl rfl ?aO ?aR (fun _ _ h=>h) (fun _ h=>h.elim) ?aF ?aB ?aS ?aL ?_;(case aO=>exact Kd.R_drewN HS2.out.row _);(case aR=>exact Kd.C_below HR1.out (pw_below_drewN HS2.out.bel _));(case aF=>exact (fun _ _=>trivial));(case aB=>exact pw_below_drewN HS2.out.bel _);(case aS=>exact HS2.out.bel.size);(case aL=>have h5:=HL.out;have h6:=(right_fit' HRB.out).1;omega);intro v5 w5 ho hb hg hat;clear hx0 hx1 hx2 hx3 hy0 hy1 hy2 hy3 hr0 hr1 hr2 hr3 hq0 hq1 hq2 hq3 hv0 hv1 hv2 hv3;obtain ⟨A5,c5,e5⟩:=Kd.R_slice ho;generalize hN : (l0 ++ l1).length = n5 at e5;subst e5;have HO5:=Aside0.mk ho;have HN5:=Aside0.mk hN;have hs5:=ast_grown HS2.out hg HS2.out.ne;have HB5:=Aside0.mk hb;have HS5:=Aside0.mk hs5;have hx0:=(blk_cell hs5.1 0).trans rfl;have hx1:=(blk_cell hs5.1 1).trans rfl;have hx2:=(blk_cell hs5.1 2).trans rfl;have hx3:=(blk_cell hs5.1 3).trans rfl;have hy1:=(blk_cell hs5.2.1 1).trans rfl;have hy2:=(blk_cell hs5.2.1 2).trans rfl;have hy3:=(blk_cell hs5.2.1 3).trans rfl;have hr0:=(blk_cell hs5.2.2 0).trans rfl;have hr1:=(blk_cell hs5.2.2 1).trans rfl;have hr2:=(blk_cell hs5.2.2 2).trans rfl;have hr3:=(blk_cell hs5.2.2 3).trans rfl;have hq0:=blk_frozen hs5.2.2 0;have hq1:=blk_frozen hs5.2.2 1;have hq2:=blk_frozen hs5.2.2 2;have hq3:=blk_frozen hs5.2.2 3;have hv0:=blk_frozen hs5.1 0;have hv1:=blk_frozen hs5.1 1;have hv2:=blk_frozen hs5.1 2;have hv3:=blk_frozen hs5.1 3;clear ho hb hg hat hN hs5)
 obtain ⟨W5,hW5⟩ : ∃ W,W = w5.setCell ⟨w.heap.size,0,none⟩ (.slice A5 n5 c5):=⟨_,rfl⟩
 rw [show w5.setCell ⟨w.heap.size,0,none⟩ (.slice A5 n5 c5) = W5 from hW5.symm]
 have hs6 : ASt w (.slice A5 n5 c5) (l0 ++ l1) a b c Ae l1 ce d e f W5:=by rw [hW5];exact ast_put HS5.out HO5.out HB5.out
 have HS6:=Aside0.mk hs6
 clear hx0 hx1 hx2 hx3 hy1 hy2 hy3 hr0 hr1 hr2 hr3 hq0 hq1 hq2 hq3 hv0 hv1 hv2 hv3
 have hx1:=(blk_cell hs6.vbx 1).trans rfl
 have hx2:=(blk_cell hs6.vbx 2).trans rfl
 have hx3:=(blk_cell hs6.vbx 3).trans rfl
 have hy1:=(blk_cell hs6.ebx 1).trans rfl
 have hy2:=(blk_cell hs6.ebx 2).trans rfl
 have hy3:=(blk_cell hs6.ebx 3).trans rfl
 have hv1:=blk_frozen hs6.vbx 1
 have hv2:=blk_frozen hs6.vbx 2
 have hv3:=blk_frozen hs6.vbx 3
 clear hs6 hW5
 obtain ⟨K9,hK9⟩ : ∃ K : Act → World → Prop,K = fun (a' : Act) (w' : World)=>(a'.tmps.size = 92 ∧ a'.defers = [] ∧ a'.tmps.getD 2 undef = .pointer (some ⟨w.heap.size,0,none⟩) ∧ a'.tmps.getD 3 undef = .pointer (some ⟨w.heap.size + 1,0,none⟩) ∧ a'.tmps.getD 4 undef = .pointer (some ⟨w.heap.size + 1 + 1,0,none⟩)) ∧ ASt w (.slice A5 n5 c5) (l0 ++ l1) x9 y9 z9 Ae l1 ce d e f w':=⟨_,rfl⟩
 have HK9:=Aside0.mk hK9
 have HKI : Aside0 (∀ (a' : Act) (w' : World),(a'.tmps.size = 92 ∧ a'.defers = [] ∧ a'.tmps.getD 2 undef = .pointer (some ⟨w.heap.size,0,none⟩) ∧ a'.tmps.getD 3 undef = .pointer (some ⟨w.heap.size + 1,0,none⟩) ∧ a'.tmps.getD 4 undef = .pointer (some ⟨w.heap.size + 1 + 1,0,none⟩)) → ASt w (.slice A5 n5 c5) (l0 ++ l1) x9 y9 z9 Ae l1 ce d e f w' → K9 a' w'):=⟨fun a' w' h1 h2=>by rw [hK9];exact ⟨h1,h2⟩⟩
 clear hK9
 refine Code.wp_mono (Q:=Exit.then K9 (fun _ _ _=>False)) ?hq ?hw
 case hw =>
  have HS8:=Aside0.mk (ast_nums9 HX9.out HY9.out HZ9.out HS6.out)
  go_region
  exact HKI.out _ _ ⟨rfl,rfl,rfl,rfl,rfl⟩ HS8.out
 case hq =>
  intro e' a' w' hR
  cases e'
  case normal =>
   have hR : K9 a' w':=hR
   rw [HK9.out] at hR
   obtain ⟨⟨h1,h2,h3,h4,h5⟩,hs8⟩:=hR
   obtain ⟨u,hu,hk⟩:=to_fun a' h1 h2
   rw [(hk 2).trans h3,(hk 3).trans h4,(hk 4).trans h5] at hu
   clear h1 h2 h3 h4 h5 hk
   subst hu
   clear hx1 hx2 hx3 hy1 hy2 hy3 hv1 hv2 hv3
   have hx0:=(blk_cell hs8.vbx 0).trans rfl
   have hx1:=(blk_cell hs8.vbx 1).trans rfl
   have hx2:=(blk_cell hs8.vbx 2).trans rfl
   have hx3:=(blk_cell hs8.vbx 3).trans rfl
   have hr0:=(blk_cell hs8.rbx 0).trans rfl
   have hr1:=(blk_cell hs8.rbx 1).trans rfl
   have hr2:=(blk_cell hs8.rbx 2).trans rfl
   have hr3:=(blk_cell hs8.rbx 3).trans rfl
   have hq0:=blk_frozen hs8.rbx 0
   have hq1:=blk_frozen hs8.rbx 1
   have hq2:=blk_frozen hs8.rbx 2
   have hq3:=blk_frozen hs8.rbx 3
   have HS8:=Aside0.mk hs8
   clear hs8
   go_wp2
   refine bodyPost_ret (results_ct rfl _ _ (w.heap.size + 1 + 1) 28 #[.slice A5 n5 c5,.int .u64 x9,.int .u64 y9,.int .u64 z9] (0,0) _ rfl (blk_put (cs':=#[.slice A5 n5 c5,.int .u64 x9,.int .u64 y9,.int .u64 z9]) (blk_put (cs':=#[.slice A5 n5 c5,.int .u64 x9,.int .u64 y9,.int .u64 0]) (blk_put (cs':=#[.slice A5 n5 c5,.int .u64 x9,.int .u64 0,.int .u64 0]) (blk_put (cs':=#[.slice A5 n5 c5,.int .u64 0,.int .u64 0,.int .u64 0]) HS8.out.rbx 0 _ rfl) 1 _ rfl) 2 _ rfl) 3 _ rfl) huv rfl (by kernel_rfl)) rfl ?_
   exact ⟨_,rfl,Kd.R_mono (Kd.R_far (p:=⟨w.heap.size + 1 + 1,3,none⟩) (Kd.R_far (p:=⟨w.heap.size + 1 + 1,2,none⟩) (Kd.R_far (p:=⟨w.heap.size + 1 + 1,1,none⟩) (Kd.R_far (p:=⟨w.heap.size + 1 + 1,0,none⟩) (Kd.R_types HS8.out.row HS8.out.rbx (by decide)) (fun k hk=>hk.2) _) (fun k hk=>hk.2) _) (fun k hk=>hk.2) _) (fun k hk=>hk.2) _) (fun _ _=>trivial),(((HS8.out.bel.setCell (p:=⟨w.heap.size + 1 + 1,0,none⟩) (by show w.heap.size ≤ w.heap.size + 1 + 1;omega) _).setCell (p:=⟨w.heap.size + 1 + 1,1,none⟩) (by show w.heap.size ≤ w.heap.size + 1 + 1;omega) _).setCell (p:=⟨w.heap.size + 1 + 1,2,none⟩) (by show w.heap.size ≤ w.heap.size + 1 + 1;omega) _).setCell (p:=⟨w.heap.size + 1 + 1,3,none⟩) (by show w.heap.size ≤ w.heap.size + 1 + 1;omega) _⟩
  all_goals exact False.elim hR

end Go.Proofs.YtcagajobpnpicaaG

end

section
set_option linter.unusedVariables false
set_option linter.unusedSimpArgs false
namespace Go.Proofs.YtcagajobpnpicaaG
open Go Go.RowKit Go.Proofs.YtcagajobpnpicaaR Go.Proofs.YtcagajobpnpicaaL Go.Proofs.Ytcagajobpnpicaa.P Go.Proofs.YtcagajobpnpicaaW.PrintWords Go.Proofs.YtcagajobpnpicaaW.PrintMore
attribute [local go_sem] Oper.semAt_some max2_int

attribute [local go_sem] max2_int
theorem edit_Apply.calls (A0_0 : Option Addr) (c0_0 : Nat) (l0_0 : List MetaS) (a0_1 a0_2 a0_3 : Int) (A1_0 : Option Addr) (c1_0 : Nat) (l1_0 : List MetaS) (a1_1 a1_2 a1_3 : Int) (r1 : List MetaS) (r2 r3 r4 r5 : Int) (w : World) (hr0_0 : Kd.C k58 w A0_0 l0_0.length l0_0) (hc0_0 : l0_0.length ≤ c0_0) (hr1_0 : Kd.C k58 w A1_0 l1_0.length l1_0) (hc1_0 : l1_0.length ≤ c1_0) (h : edit_Apply.f l0_0 a0_1 a0_2 a0_3 l1_0 a1_1 a1_2 a1_3 = some (r1,r2,r3,r4,r5)) :
  Calls Try.prog 15 #[.agg #[.slice A0_0 l0_0.length c0_0,.int .u64 a0_1,.int .u64 a0_2,.int .u64 a0_3],.agg #[.slice A1_0 l1_0.length c1_0,.int .u64 a1_1,.int .u64 a1_2,.int .u64 a1_3]] w fun e w'=>∃ v0_ : Value,e = .returned (.tuple #[.agg #[v0_,.int .u64 r2,.int .u64 r3,.int .u64 r4],.int .i64 r5]) ∧ Kd.R k58 58 w' w.heap.size (fun _=>True) v0_ r1 ∧ Below w.heap.size w w':=by
 unfold edit_Apply.f at h
 by_cases hw : WfE l1_0 a1_1 a1_2 a1_3 ∧ l0_0.length + 64 < 2932031007402
 ·rw [if_pos hw] at h
  have h:=Option.some.inj h
  cases hok : okB l0_0 a0_1 a0_2 a0_3 l1_0 a1_1 a1_2 a1_3 with
  | true =>
   rw [hok] at h
   simp only [if_true,Prod.mk.injEq] at h
   obtain ⟨rfl,rfl,rfl,rfl,rfl⟩:=h
   by_cases hn : 0 < l0_0.length
   ·by_cases hm : 0 < l1_0.length
    ·exact apply_ok_a A0_0 c0_0 l0_0 a0_1 a0_2 a0_3 A1_0 c1_0 l1_0 a1_1 a1_2 a1_3 w hr0_0 hc0_0 hr1_0 hc1_0 hw.1 hw.2 hok _ _ _ rfl rfl rfl hn hm
    ·exact apply_ok_b A0_0 c0_0 l0_0 a0_1 a0_2 a0_3 A1_0 c1_0 l1_0 a1_1 a1_2 a1_3 w hr0_0 hc0_0 hr1_0 hc1_0 hw.1 hw.2 hok _ _ _ rfl rfl rfl hn hm
   ·exact apply_ok_c A0_0 c0_0 l0_0 a0_1 a0_2 a0_3 A1_0 c1_0 l1_0 a1_1 a1_2 a1_3 w hr0_0 hc0_0 hr1_0 hc1_0 hw.1 hw.2 hok _ _ _ rfl rfl rfl hn
  | false =>
   rw [hok] at h
   simp only [Bool.false_eq_true,if_false,Prod.mk.injEq] at h
   obtain ⟨rfl,rfl,rfl,rfl,rfl⟩:=h
   exact apply_no A0_0 c0_0 l0_0 a0_1 a0_2 a0_3 A1_0 c1_0 l1_0 a1_1 a1_2 a1_3 w hr0_0 hc0_0 hr1_0 hc1_0 hw.1 hw.2 hok
 ·rw [if_neg hw] at h
  cases h
end Go.Proofs.YtcagajobpnpicaaG

end

section
namespace Go.Proofs.Ytcagajobpnpicaa.P
open Go.RowKit Go.Proofs.YtcagajobpnpicaaG Go.Proofs.YtcagajobpnpicaaW.PrintWords Go.Proofs.YtcagajobpnpicaaW.PrintLast Go.Proofs.YtcagajobpnpicaaW.PrintMore
attribute [local go_sem] str_gtr str_geq str_leq max2_int min2_int max_two min_two max_three min_three max_four min_four   -- for this text's walks alone
set_option linter.unusedVariables false
set_option linter.unusedSimpArgs false

-- GIVEN: function 65 (nums_Put)

def nums_PutText.f (l0 : List Int) (a1 : BA) : Option (List Int):=(nums_Put.f l0 (IntKind.u64.wrap ((a1.size : Int)))).bind fun t118 => (if t118.length + a1.size < 140737488355328 then (some (t118 ++ bytesOf a1)) else (none))
set_option maxHeartbeats 8000000 in
set_option maxRecDepth 100000 in
theorem nums_PutText.calls (A0 : Option Addr) (c0 : Nat) (l0 : List Int) (a1 : BA) (r : List Int) (w : World) (hr0 : Kd.C (Kd.int .u8) w A0 l0.length l0) (hc0 : l0.length ≤ c0) (h : nums_PutText.f l0 a1 = some r) :
  Calls Try.prog 66 #[.slice A0 l0.length c0,.string a1] w fun e w' => ∃ v0_ : Value,e = .returned (v0_) ∧ Kd.R (Kd.int .u8) 5 w' w.heap.size (fun _ => True) v0_ r ∧ Below w.heap.size w w':=by
 have HR0:=Aside0.mk hr0
 have HC0:=Aside0.mk hc0
 clear hr0 hc0
 have HB:=Aside0.mk (Below.refl w.heap.size w)
 have H : ((nums_Put.f l0 (IntKind.u64.wrap ((a1.size : Int)))).bind fun t118 => (if t118.length + a1.size < 140737488355328 then (some (t118 ++ bytesOf a1)) else (none))) = some r:=h
 clear h
 replace H:=Option.bind_eq_some_iff.mp H
 obtain ⟨t118,A30,H⟩:=H
 replace H : (if t118.length + a1.size < 140737488355328 then (some (t118 ++ bytesOf a1)) else (none)) = some r:=H
 have A3:=Aside0.mk A30
 clear A30
 by_cases c4 : t118.length + a1.size < 140737488355328
 ·rw [if_pos c4] at H
  have LMc4:=Aside0.mk c4
  clear c4
  obtain ⟨y121,hy121⟩ : ∃ y_ : List Int,y_ = (t118 ++ bytesOf a1):=⟨_,rfl⟩
  replace H : (some y121) = some r:=by first|(rw [hy121];with_reducible exact H)|(have H2_:=(Option.bind_some _ _).symm.trans H;rw [hy121];with_reducible exact H2_)|(have H2_:=(Option.bind_some _ _).symm.trans H;with_reducible exact H2_)|with_reducible exact H|(rw [hy121];exact H)|exact H
  have Ny121:=Aside0.mk hy121
  clear hy121
  obtain rfl:=Option.some.inj H
  go_enter Try.func66,Try.ntmps66
  go_wp2_with (first|((with_reducible refine gate_callee (f:=65) rfl ?_);refine goesL_ (some 9) rfl rfl Try.func65 (by kernel_rfl) rfl #[.slice A0 l0.length c0,.int .u64 (IntKind.u64.wrap ((a1.size : Int)))] rfl (by (try simp only [List.map_toArray,List.map_cons,List.map_nil]);first|done|rfl|(simp only [List.length_drop,List.length_take];rfl)) ?_;(with_reducible refine (nums_Put.calls _ _ l0 (IntKind.u64.wrap ((a1.size : Int))) t118 _ ?side1 ?side2 A3.out).mono ?_);(case side1 => repeat (first|exact HR0.out|(with_reducible refine Kd.C_alloc ?_ _)|(with_reducible refine Kd.C_drewN ?_ _)|(with_reducible refine Kd.C_drew ?_)));(case side2 => exact HC0.out);rintro e w5 ⟨v119,rfl,ho0,hb⟩;refine ⟨_,rfl,?_⟩;have n0_:=Aside0.mk (Kd.R_lower ho0 (below_size (by repeat (first|(with_reducible first|exact HB.out|apply below_alloc|apply pw_below_drewN|apply below_drew1)|exact HB.out))));have n1_:=Aside0.mk (below_step (by repeat (first|(with_reducible first|exact HB.out|apply below_alloc|apply pw_below_drewN|apply below_drew1)|exact HB.out)) hb);clear HB;have HO120:=n0_;have HB:=n1_;clear n0_ n1_;(try clear hb);(try clear hb2);(try clear hk);(try clear hi);(try clear ho0))|(at_builtin;refine print_append_str (w0:=w) w.heap.size rfl (.tmp 9) _ 26 9 5 rfl Try.underlying26 Try.underlying9 info5 v119 t118 a1 rfl rfl ?aO ?aB ?aS ?aL ?_;(case aB => exact (by repeat (first|(with_reducible first|exact HB.out|apply below_alloc|apply pw_below_drewN|apply below_drew1)|exact HB.out)));(case aO => exact (Kd.own_of_R (by (with_reducible repeat (first|apply zA|apply zN|apply zD));exact HO120.out)));(case aS => exact (below_size (by repeat (first|(with_reducible first|exact HB.out|apply below_alloc|apply pw_below_drewN|apply below_drew1)|exact HB.out))));(case aL => have:=LMc4.out;omega);intro v122 w6 ho0 hb hg;have ho:=Kd.R_of_own (h1:=fun _ => rfl) (ok:=fun _ => True) ho0 (fun _ _ => trivial);clear ho0;have hat:=True.intro;rw [← Ny121.out] at ho;change Kd.R (Kd.int .u8) 5 w6 w.heap.size (fun _ => True) v122 y121 at ho;have n0_:=Aside0.mk (hb);have n1_:=Aside0.mk (ho);clear HB;clear HO120;have HB:=n0_;have HO123:=n1_;clear n0_ n1_;clear ho hb hg hat))
  go_ret
  exact ⟨_,by first|rfl|(simp [errW_none,errW_some] <;> rfl)|(simp [*,errW_none,errW_some] <;> rfl),by (with_reducible repeat (first|apply zA|apply zN|apply zD));exact HO123.out,by repeat (first|(with_reducible first|exact HB.out|apply below_alloc|apply pw_below_drewN|apply below_drew1)|exact HB.out)⟩
 ·rw [if_neg c4] at H
  exact absurd H (by simp)

-- GIVEN: function 11 (edit_Bytes)

end Go.Proofs.Ytcagajobpnpicaa.P

end

section
set_option linter.unusedVariables false
set_option linter.unusedSimpArgs false
namespace Go.Proofs.YtcagajobpnpicaaG
open Go Go.RowKit Go.Proofs.YtcagajobpnpicaaR Go.Proofs.Ytcagajobpnpicaa.P Go.Proofs.YtcagajobpnpicaaW.PrintWords
attribute [local go_sem] Oper.semAt_some
theorem run_store_fn {P : Program} {w : World} {a : Addr} {m : Mode} (f : Fn) (x y : Array Value) : (store a (.func f x y) m).run P w = stored P w a (.func f x y) m:=run_store P w a _ m rfl
attribute [local go_sem] run_store_fn
abbrev tSel : TypeId:=92
abbrev pt (g : Nat) : Value:=.pointer (some ⟨g,0,none⟩)
abbrev fv (n : Nat) (g : Nat) : Value:=.func (.func n) #[] #[.pointer (some ⟨g,0,none⟩)]
abbrev f0 (n : Nat) : Value:=.func (.func n) #[] #[]
abbrev aggE (A : Option Addr) (n c : Nat) (a1 a2 a3 : Int) : Value:=.agg #[.slice A n c,.int .u64 a1,.int .u64 a2,.int .u64 a3]

set_option maxRecDepth 100000 in
theorem sel1_calls (g : Nat) (w : World) : Calls Try.prog 50 #[pt g] w fun e w'=>e = .returned (.pointer (some ⟨g,1,none⟩)) ∧ w = w':=by
 go_enter Try.func50,Try.ntmps50
 go_wp2
 go_ret
 exact ⟨rfl,rfl⟩
set_option maxRecDepth 100000 in
set_option maxHeartbeats 1000000 in
theorem is1_calls (m : Nat) (A : Option Addr) (n c : Nat) (a1 a2 a3 : Int) (w : World) (hm : w.heap[m]? = some (.cells #[f0 50] tSel)) :
  Calls Try.prog 70 #[aggE A n c a1 a2 a3,pt m] w fun e w'=>e = .returned (.bool (decide (0 < a1))) ∧ Below w.heap.size w w':=by
 have hu:=Try.underlying25
 have hb0:=World.alloc_heap_new w (.cells #[.slice A n c,.int .u64 a1,.int .u64 a2,.int .u64 a3] 25)
 have HB : Below w.heap.size w (w.alloc (.cells #[.slice A n c,.int .u64 a1,.int .u64 a2,.int .u64 a3] 25)):=below_alloc (Below.refl _ _) _
 have hm1:=(HB.block m (blk_lt hm)).trans hm
 have hc0:=box_cell hm1
 have hf0:=box_frozen hm1
 have HB':=Aside0.mk HB
 clear hm hm1 HB
 go_enter Try.func70,Try.ntmps70
 go_wp2
 go_ret
 exact ⟨rfl,HB'.out⟩
set_option maxRecDepth 100000 in
set_option maxHeartbeats 1000000 in
theorem put1_calls (m : Nat) (A : Option Addr) (n c : Nat) (a1 a2 a3 : Int) (B : Option Addr) (cb : Nat) (b : List Int) (w : World) (hm : w.heap[m]? = some (.cells #[f0 50] tSel)) (hb : Kd.C (Kd.int .u8) w B b.length b) (hcb : b.length ≤ cb) (hl : b.length ≤ 1000000) (ha : U64 a1) :
  Calls Try.prog 71 #[.slice B b.length cb,aggE A n c a1 a2 a3,pt m] w fun e w'=>∃ v,e = .returned v ∧ Kd.R (Kd.int .u8) 5 w' w.heap.size (fun _=>True) v (b ++ vint a1.toNat) ∧ Below w.heap.size w w':=by
 have hu:=Try.underlying25
 have hb0:=World.alloc_heap_new w (.cells #[.slice A n c,.int .u64 a1,.int .u64 a2,.int .u64 a3] 25)
 have HB : Below w.heap.size w (w.alloc (.cells #[.slice A n c,.int .u64 a1,.int .u64 a2,.int .u64 a3] 25)):=below_alloc (Below.refl _ _) _
 have hm1:=(HB.block m (blk_lt hm)).trans hm
 have hc0:=box_cell hm1
 have hf0:=box_frozen hm1
 have hcl:=nums_Put.calls B cb b a1 _ _ (Kd.C_below hb HB) hcb (show nums_Put.f b a1 = some (b ++ vint a1.toNat) by unfold nums_Put.f;rw [if_pos ⟨ha.1,ha.2,by omega⟩])
 have HCL:=Aside0.mk hcl
 have HB':=Aside0.mk HB
 clear hm hm1 HB hb hl ha hcl
 go_enter Try.func71,Try.ntmps71
 go_wp2_with (first|(go_at_call 50;refine (sel1_calls _ _).mono ?_;rintro e w' ⟨rfl,rfl⟩)|(go_at_call 65;refine HCL.out.mono ?_;rintro e w1 ⟨v,rfl,hv,hd⟩;have HV:=Aside0.mk hv;have HD:=Aside0.mk hd;clear hv hd))
 go_ret
 exact ⟨_,rfl,Kd.R_lower HV.out HB'.out.size,below_then HB'.out HB'.out.size HD.out⟩

set_option maxRecDepth 100000 in
theorem sel2_calls (g : Nat) (w : World) : Calls Try.prog 51 #[pt g] w fun e w'=>e = .returned (.pointer (some ⟨g,2,none⟩)) ∧ w = w':=by
 go_enter Try.func51,Try.ntmps51
 go_wp2
 go_ret
 exact ⟨rfl,rfl⟩
set_option maxRecDepth 100000 in
set_option maxHeartbeats 1000000 in
theorem is2_calls (m : Nat) (A : Option Addr) (n c : Nat) (a1 a2 a3 : Int) (w : World) (hm : w.heap[m]? = some (.cells #[f0 51] tSel)) :
  Calls Try.prog 70 #[aggE A n c a1 a2 a3,pt m] w fun e w'=>e = .returned (.bool (decide (0 < a2))) ∧ Below w.heap.size w w':=by
 have hu:=Try.underlying25
 have hb0:=World.alloc_heap_new w (.cells #[.slice A n c,.int .u64 a1,.int .u64 a2,.int .u64 a3] 25)
 have HB : Below w.heap.size w (w.alloc (.cells #[.slice A n c,.int .u64 a1,.int .u64 a2,.int .u64 a3] 25)):=below_alloc (Below.refl _ _) _
 have hm1:=(HB.block m (blk_lt hm)).trans hm
 have hc0:=box_cell hm1
 have hf0:=box_frozen hm1
 have HB':=Aside0.mk HB
 clear hm hm1 HB
 go_enter Try.func70,Try.ntmps70
 go_wp2
 go_ret
 exact ⟨rfl,HB'.out⟩
set_option maxRecDepth 100000 in
set_option maxHeartbeats 1000000 in
theorem put2_calls (m : Nat) (A : Option Addr) (n c : Nat) (a1 a2 a3 : Int) (B : Option Addr) (cb : Nat) (b : List Int) (w : World) (hm : w.heap[m]? = some (.cells #[f0 51] tSel)) (hb : Kd.C (Kd.int .u8) w B b.length b) (hcb : b.length ≤ cb) (hl : b.length ≤ 1000000) (ha : U64 a2) :
  Calls Try.prog 71 #[.slice B b.length cb,aggE A n c a1 a2 a3,pt m] w fun e w'=>∃ v,e = .returned v ∧ Kd.R (Kd.int .u8) 5 w' w.heap.size (fun _=>True) v (b ++ vint a2.toNat) ∧ Below w.heap.size w w':=by
 have hu:=Try.underlying25
 have hb0:=World.alloc_heap_new w (.cells #[.slice A n c,.int .u64 a1,.int .u64 a2,.int .u64 a3] 25)
 have HB : Below w.heap.size w (w.alloc (.cells #[.slice A n c,.int .u64 a1,.int .u64 a2,.int .u64 a3] 25)):=below_alloc (Below.refl _ _) _
 have hm1:=(HB.block m (blk_lt hm)).trans hm
 have hc0:=box_cell hm1
 have hf0:=box_frozen hm1
 have hcl:=nums_Put.calls B cb b a2 _ _ (Kd.C_below hb HB) hcb (show nums_Put.f b a2 = some (b ++ vint a2.toNat) by unfold nums_Put.f;rw [if_pos ⟨ha.1,ha.2,by omega⟩])
 have HCL:=Aside0.mk hcl
 have HB':=Aside0.mk HB
 clear hm hm1 HB hb hl ha hcl
 go_enter Try.func71,Try.ntmps71
 go_wp2_with (first|(go_at_call 51;refine (sel2_calls _ _).mono ?_;rintro e w' ⟨rfl,rfl⟩)|(go_at_call 65;refine HCL.out.mono ?_;rintro e w1 ⟨v,rfl,hv,hd⟩;have HV:=Aside0.mk hv;have HD:=Aside0.mk hd;clear hv hd))
 go_ret
 exact ⟨_,rfl,Kd.R_lower HV.out HB'.out.size,below_then HB'.out HB'.out.size HD.out⟩

set_option maxRecDepth 100000 in
theorem sel3_calls (g : Nat) (w : World) : Calls Try.prog 52 #[pt g] w fun e w'=>e = .returned (.pointer (some ⟨g,3,none⟩)) ∧ w = w':=by
 go_enter Try.func52,Try.ntmps52
 go_wp2
 go_ret
 exact ⟨rfl,rfl⟩
set_option maxRecDepth 100000 in
set_option maxHeartbeats 1000000 in
theorem is3_calls (m : Nat) (A : Option Addr) (n c : Nat) (a1 a2 a3 : Int) (w : World) (hm : w.heap[m]? = some (.cells #[f0 52] tSel)) :
  Calls Try.prog 70 #[aggE A n c a1 a2 a3,pt m] w fun e w'=>e = .returned (.bool (decide (0 < a3))) ∧ Below w.heap.size w w':=by
 have hu:=Try.underlying25
 have hb0:=World.alloc_heap_new w (.cells #[.slice A n c,.int .u64 a1,.int .u64 a2,.int .u64 a3] 25)
 have HB : Below w.heap.size w (w.alloc (.cells #[.slice A n c,.int .u64 a1,.int .u64 a2,.int .u64 a3] 25)):=below_alloc (Below.refl _ _) _
 have hm1:=(HB.block m (blk_lt hm)).trans hm
 have hc0:=box_cell hm1
 have hf0:=box_frozen hm1
 have HB':=Aside0.mk HB
 clear hm hm1 HB
 go_enter Try.func70,Try.ntmps70
 go_wp2
 go_ret
 exact ⟨rfl,HB'.out⟩
set_option maxRecDepth 100000 in
set_option maxHeartbeats 1000000 in
theorem put3_calls (m : Nat) (A : Option Addr) (n c : Nat) (a1 a2 a3 : Int) (B : Option Addr) (cb : Nat) (b : List Int) (w : World) (hm : w.heap[m]? = some (.cells #[f0 52] tSel)) (hb : Kd.C (Kd.int .u8) w B b.length b) (hcb : b.length ≤ cb) (hl : b.length ≤ 1000000) (ha : U64 a3) :
  Calls Try.prog 71 #[.slice B b.length cb,aggE A n c a1 a2 a3,pt m] w fun e w'=>∃ v,e = .returned v ∧ Kd.R (Kd.int .u8) 5 w' w.heap.size (fun _=>True) v (b ++ vint a3.toNat) ∧ Below w.heap.size w w':=by
 have hu:=Try.underlying25
 have hb0:=World.alloc_heap_new w (.cells #[.slice A n c,.int .u64 a1,.int .u64 a2,.int .u64 a3] 25)
 have HB : Below w.heap.size w (w.alloc (.cells #[.slice A n c,.int .u64 a1,.int .u64 a2,.int .u64 a3] 25)):=below_alloc (Below.refl _ _) _
 have hm1:=(HB.block m (blk_lt hm)).trans hm
 have hc0:=box_cell hm1
 have hf0:=box_frozen hm1
 have hcl:=nums_Put.calls B cb b a3 _ _ (Kd.C_below hb HB) hcb (show nums_Put.f b a3 = some (b ++ vint a3.toNat) by unfold nums_Put.f;rw [if_pos ⟨ha.1,ha.2,by omega⟩])
 have HCL:=Aside0.mk hcl
 have HB':=Aside0.mk HB
 clear hm hm1 HB hb hl ha hcl
 go_enter Try.func71,Try.ntmps71
 go_wp2_with (first|(go_at_call 52;refine (sel3_calls _ _).mono ?_;rintro e w' ⟨rfl,rfl⟩)|(go_at_call 65;refine HCL.out.mono ?_;rintro e w1 ⟨v,rfl,hv,hd⟩;have HV:=Aside0.mk hv;have HD:=Aside0.mk hd;clear hv hd))
 go_ret
 exact ⟨_,rfl,Kd.R_lower HV.out HB'.out.size,below_then HB'.out HB'.out.size HD.out⟩

set_option maxRecDepth 100000 in
theorem isA_calls (A : Option Addr) (n c : Nat) (a1 a2 a3 : Int) (w : World) :
  Calls Try.prog 63 #[aggE A n c a1 a2 a3] w fun e w'=>e = .returned (.bool (decide (0 < n))) ∧ Below w.heap.size w w':=by
 have hu:=Try.underlying25
 have hb0:=World.alloc_heap_new w (.cells #[.slice A n c,.int .u64 a1,.int .u64 a2,.int .u64 a3] 25)
 have HB : Below w.heap.size w (w.alloc (.cells #[.slice A n c,.int .u64 a1,.int .u64 a2,.int .u64 a3] 25)):=below_alloc (Below.refl _ _) _
 have HB':=Aside0.mk HB
 have hd : decide (0 < (n : Int)) = decide (0 < n):=decide_eq_decide.2 (by omega)
 clear HB
 go_enter Try.func63,Try.ntmps63
 go_wp2
 go_ret
 exact ⟨by simp,HB'.out⟩

/-- The functions of a part. -/
abbrev numP (m : Nat) : List Value:=[fv 70 m,fv 71 m,fv 72 m]
abbrev addP : List Value:=[f0 63,f0 64,f0 67]
set_option maxRecDepth 100000 in
set_option maxHeartbeats 1000000 in
theorem number_calls (n : Nat) (w : World) : Calls Try.prog 49 #[f0 n] w fun e w'=>e = .returned (.agg (numP w.heap.size).toArray) ∧ w'.heap[w.heap.size]? = some (.cells #[f0 n] tSel) ∧ Below w.heap.size w w':=by
 have hu:=Try.underlying64
 have h0:=World.alloc_heap_new w (.cells #[f0 n] tSel)
 have hN:=World.alloc_heap_new (w.alloc (.cells #[f0 n] tSel)) (.cells #[.nilFunc,.nilFunc,.nilFunc] 64)
 rw [World.size_alloc] at hN
 have h1 : ((w.alloc (.cells #[f0 n] tSel)).alloc (.cells #[.nilFunc,.nilFunc,.nilFunc] 64)).heap[w.heap.size]? = some (.cells #[f0 n] tSel):=(Below.heap_alloc _ _ _ (by simp)).trans h0
 have hB : Below w.heap.size w ((w.alloc (.cells #[f0 n] tSel)).alloc (.cells #[.nilFunc,.nilFunc,.nilFunc] 64)):=below_alloc (below_alloc (Below.refl _ _) _) _
 have hc0 : ((w.alloc (.cells #[f0 n] tSel)).alloc (.cells #[.nilFunc,.nilFunc,.nilFunc] 64)).cell? ⟨w.heap.size + 1,0,none⟩ = some .nilFunc:=(blk_cell hN 0).trans rfl
 have hc1 : ((w.alloc (.cells #[f0 n] tSel)).alloc (.cells #[.nilFunc,.nilFunc,.nilFunc] 64)).cell? ⟨w.heap.size + 1,1,none⟩ = some .nilFunc:=(blk_cell hN 1).trans rfl
 have hc2 : ((w.alloc (.cells #[f0 n] tSel)).alloc (.cells #[.nilFunc,.nilFunc,.nilFunc] 64)).cell? ⟨w.heap.size + 1,2,none⟩ = some .nilFunc:=(blk_cell hN 2).trans rfl
 have hf0:=blk_frozen hN 0
 have hf1:=blk_frozen hN 1
 have hf2:=blk_frozen hN 2
 have HN:=Aside0.mk hN
 have H1:=Aside0.mk h1
 have HB:=Aside0.mk hB
 clear hN h0 h1 hB
 go_enter Try.func49,Try.ntmps49
 go_wp2
 have P3:=World.alloc_heap_new (w.alloc (.cells #[f0 n] tSel)) (.cells #[fv 70 w.heap.size,fv 71 w.heap.size,fv 72 w.heap.size] 64)
 rw [World.size_alloc] at P3
 refine bodyPost_ret (results_cell_row rfl _ _ (w.heap.size + 1) 64 #[fv 70 w.heap.size,fv 71 w.heap.size,fv 72 w.heap.size] (0,0) _ rfl P3 hu rfl (by kernel_rfl)) rfl ?_
 refine ⟨rfl,?_,?_⟩
 ·exact (Below.heap_alloc _ _ _ (by simp)).trans (World.alloc_heap_new w _)
 ·exact below_alloc (below_alloc (Below.refl _ _) _) _
set_option maxRecDepth 100000 in
theorem added_calls (w : World) : Calls Try.prog 48 #[] w fun e w'=>e = .returned (.agg addP.toArray) ∧ Below w.heap.size w w':=by
 have hu:=Try.underlying64
 have hN:=World.alloc_heap_new w (.cells #[.nilFunc,.nilFunc,.nilFunc] 64)
 have hB : Below w.heap.size w (w.alloc (.cells #[.nilFunc,.nilFunc,.nilFunc] 64)):=below_alloc (Below.refl _ _) _
 have hc0 : (w.alloc (.cells #[.nilFunc,.nilFunc,.nilFunc] 64)).cell? ⟨w.heap.size,0,none⟩ = some .nilFunc:=(blk_cell hN 0).trans rfl
 have hc1 : (w.alloc (.cells #[.nilFunc,.nilFunc,.nilFunc] 64)).cell? ⟨w.heap.size,1,none⟩ = some .nilFunc:=(blk_cell hN 1).trans rfl
 have hc2 : (w.alloc (.cells #[.nilFunc,.nilFunc,.nilFunc] 64)).cell? ⟨w.heap.size,2,none⟩ = some .nilFunc:=(blk_cell hN 2).trans rfl
 have hf0:=blk_frozen hN 0
 have hf1:=blk_frozen hN 1
 have hf2:=blk_frozen hN 2
 have HN:=Aside0.mk hN
 have HB:=Aside0.mk hB
 clear hN hB
 go_enter Try.func48,Try.ntmps48
 go_wp2
 have P3:=World.alloc_heap_new w (.cells #[f0 63,f0 64,f0 67] 64)
 refine bodyPost_ret (results_cell_row rfl _ _ w.heap.size 64 #[f0 63,f0 64,f0 67] (0,0) _ rfl P3 hu rfl (by kernel_rfl)) rfl ?_
 exact ⟨rfl,below_alloc (Below.refl _ _) _⟩
/-- The row of all parts, with the boxes of three. -/
def Parts (g m1 m2 m3 : Nat) (W : World) : Prop:=W.heap[g]? = some (.cells (addP ++ (numP m1 ++ (numP m2 ++ numP m3))).toArray 64) ∧ W.heap[m1]? = some (.cells #[f0 50] tSel) ∧ W.heap[m2]? = some (.cells #[f0 51] tSel) ∧ W.heap[m3]? = some (.cells #[f0 52] tSel)
theorem Parts.below {g m1 m2 m3 n : Nat} {W W' : World} (h : Parts g m1 m2 m3 W) (hb : Below n W W') (hn : W.heap.size ≤ n) : Parts g m1 m2 m3 W' :=
 ⟨(hb.block _ (Nat.lt_of_lt_of_le (blk_lt h.1) hn)).trans h.1,(hb.block _ (Nat.lt_of_lt_of_le (blk_lt h.2.1) hn)).trans h.2.1,(hb.block _ (Nat.lt_of_lt_of_le (blk_lt h.2.2.1) hn)).trans h.2.2.1,(hb.block _ (Nat.lt_of_lt_of_le (blk_lt h.2.2.2) hn)).trans h.2.2.2⟩
set_option maxRecDepth 100000 in
set_option maxHeartbeats 1000000 in
theorem parts_calls (w : World) : Calls Try.prog 32 #[] w fun e w'=>∃ g m1 m2 m3 : Nat,e = .returned (.slice (some ⟨g,0,none⟩) 4 4) ∧ Parts g m1 m2 m3 w' ∧ (w.heap.size ≤ g ∧ w.heap.size ≤ m1 ∧ w.heap.size ≤ m2 ∧ w.heap.size ≤ m3) ∧ Below w.heap.size w w':=by
 have hu:=Try.underlying64
 go_enter Try.func32,Try.ntmps32
 go_wp2_with (first|(go_at_call 48;refine (added_calls _).mono ?_;rintro e w1 ⟨rfl,hb1⟩;have HB1:=Aside0.mk hb1;clear hb1)|(go_at_call 49;refine (number_calls 50 _).mono ?_;rintro e w2 ⟨rfl,hm1,hb2⟩;have HB2:=Aside0.mk (below_then HB1.out HB1.out.size hb2);have HM1:=Aside0.mk hm1;have HL1 : Aside0 (w.heap.size ≤ w1.heap.size):=⟨HB1.out.size⟩;clear hb2 hm1)|(go_at_call 49;refine (number_calls 51 _).mono ?_;rintro e w3 ⟨rfl,hm2,hb3⟩;have HB3:=Aside0.mk (below_then HB2.out HB2.out.size hb3);have HM1':=Aside0.mk ((hb3.block _ (blk_lt HM1.out)).trans HM1.out);have HM2:=Aside0.mk hm2;have HL2 : Aside0 (w.heap.size ≤ w2.heap.size):=⟨HB2.out.size⟩;clear hb3 hm2)|(go_at_call 49;refine (number_calls 52 _).mono ?_;rintro e w4 ⟨rfl,hm3,hb4⟩;have HB4:=Aside0.mk (below_then HB3.out HB3.out.size hb4);have HM1'':=Aside0.mk ((hb4.block _ (blk_lt HM1'.out)).trans HM1'.out);have HM2':=Aside0.mk ((hb4.block _ (blk_lt HM2.out)).trans HM2.out);have HM3:=Aside0.mk hm3;have HL3 : Aside0 (w.heap.size ≤ w3.heap.size):=⟨HB3.out.size⟩;clear hb4 hm3))
 refine bodyPost_ret (results_tmp rfl _ _ _) rfl ?_
 refine ⟨w4.heap.size,w1.heap.size,w2.heap.size,w3.heap.size,rfl,⟨World.alloc_heap_new w4 _,?_,?_,?_⟩,⟨HB4.out.size,HL1.out,HL2.out,HL3.out⟩,below_alloc HB4.out _⟩
 ·exact (Below.heap_alloc _ _ _ (blk_lt HM1''.out)).trans HM1''.out
 ·exact (Below.heap_alloc _ _ _ (blk_lt HM2'.out)).trans HM2'.out
 ·exact (Below.heap_alloc _ _ _ (blk_lt HM3.out)).trans HM3.out
end Go.Proofs.YtcagajobpnpicaaG

end

section
namespace Go.Proofs.Ytcagajobpnpicaa.P
open Go.RowKit Go.Proofs.YtcagajobpnpicaaG Go.Proofs.YtcagajobpnpicaaW.PrintWords Go.Proofs.YtcagajobpnpicaaW.PrintLast Go.Proofs.YtcagajobpnpicaaW.PrintMore
attribute [local go_sem] str_gtr str_geq str_leq max2_int min2_int max_two min_two max_three min_three max_four min_four   -- for this text's walks alone
set_option linter.unusedVariables false
set_option linter.unusedSimpArgs false

def nums_TakeText.f (l0 : List Int) (a1 : Int) : Option (ByteArray × List Int × Bool):=(nums_Take.f l0).bind fun bt145 => (if bt145.2.2 = true then (if bt145.1 > (IntKind.u64.wrap (mx a1 0)) then (some ((⟨#[]⟩ : BA),([] : List Int),false)) else (if a1 < 0 then (some ((⟨#[]⟩ : BA),([] : List Int),false)) else (if bt145.1 > (IntKind.u64.wrap ((bt145.2.1.length : Int))) then (some ((⟨#[]⟩ : BA),([] : List Int),false)) else (if 0 ≤ bt145.1 then (if bt145.1 ≤ (bt145.2.1.length : Int) then ((slices_Clone_byte_byte.f (bt145.2.1.drop (bt145.1 : Int).toNat)).bind fun t158 => (some (strOfNums (bt145.2.1.take (bt145.1 : Int).toNat),t158,true))) else (none)) else (none))))) else (some ((⟨#[]⟩ : BA),([] : List Int),false)))
def nums_TakeText.T4 : Bool × List (List Nat × List Nat):=(true,[([],[]),([],[]),([0,1],[0,1]),([2],[2]),([],[]),([],[]),([4,5],[4,5]),([6],[6]),([3,7,0,1,2,3],[3]),([7,8,0,1,2,3,4,5,6,7,8],[7]),([9,0,1,2,3,4,5,6,7,8,9],[])])
def nums_TakeText.B4 : List Nat:=[0,0,3,7,0,0,48,112,255,511,1023]
theorem nums_TakeText.tab4 : rtab .any (opsOf Try.f80 4) = nums_TakeText.T4:=by kernel_rfl
theorem nums_TakeText.bits4 : waitsOk nums_TakeText.T4.2 nums_TakeText.B4 = true:=by kernel_rfl
set_option maxHeartbeats 8000000 in
set_option maxRecDepth 100000 in
theorem nums_TakeText.calls (A0 : Option Addr) (c0 : Nat) (l0 : List Int) (a1 : Int) (r1 : BA) (r2 : List Int) (r3 : Bool) (w : World) (hr0 : Kd.C (Kd.int .u8) w A0 l0.length l0) (hc0 : l0.length ≤ c0) (h : nums_TakeText.f l0 a1 = some (r1,r2,r3)) :
  Calls Try.prog 80 #[.slice A0 l0.length c0,.int .i64 a1] w fun e w' => ∃ v1_ : Value,e = .returned (.tuple #[.string r1,v1_,.bool r3]) ∧ Kd.R (Kd.int .u8) 5 w' w.heap.size (fun _ => True) v1_ r2 ∧ Below w.heap.size w w':=by
 have HR0:=Aside0.mk hr0
 have HC0:=Aside0.mk hc0
 clear hr0 hc0
 have HB:=Aside0.mk (Below.refl w.heap.size w)
 have H : ((nums_Take.f l0).bind fun bt145 => (if bt145.2.2 = true then (if bt145.1 > (IntKind.u64.wrap (mx a1 0)) then (some ((⟨#[]⟩ : BA),([] : List Int),false)) else (if a1 < 0 then (some ((⟨#[]⟩ : BA),([] : List Int),false)) else (if bt145.1 > (IntKind.u64.wrap ((bt145.2.1.length : Int))) then (some ((⟨#[]⟩ : BA),([] : List Int),false)) else (if 0 ≤ bt145.1 then (if bt145.1 ≤ (bt145.2.1.length : Int) then ((slices_Clone_byte_byte.f (bt145.2.1.drop (bt145.1 : Int).toNat)).bind fun t158 => (some (strOfNums (bt145.2.1.take (bt145.1 : Int).toNat),t158,true))) else (none)) else (none))))) else (some ((⟨#[]⟩ : BA),([] : List Int),false)))) = some (r1,r2,r3):=h
 clear h
 replace H:=Option.bind_eq_some_iff.mp H
 obtain ⟨⟨t145,t146,t147⟩,A30,H⟩:=H
 replace H : (if t147 = true then (if t145 > (IntKind.u64.wrap (mx a1 0)) then (some ((⟨#[]⟩ : BA),([] : List Int),false)) else (if a1 < 0 then (some ((⟨#[]⟩ : BA),([] : List Int),false)) else (if t145 > (IntKind.u64.wrap ((t146.length : Int))) then (some ((⟨#[]⟩ : BA),([] : List Int),false)) else (if 0 ≤ t145 then (if t145 ≤ (t146.length : Int) then ((slices_Clone_byte_byte.f (t146.drop (t145 : Int).toNat)).bind fun t158 => (some (strOfNums (t146.take (t145 : Int).toNat),t158,true))) else (none)) else (none))))) else (some ((⟨#[]⟩ : BA),([] : List Int),false))) = some (r1,r2,r3):=H
 have A3:=Aside0.mk A30
 clear A30
 by_cases c4 : t147 = true
 rotate_left
 ·replace c4:=Bool.eq_false_iff.mpr c4
  subst c4
  have H1 : (some ((⟨#[]⟩ : BA),([] : List Int),false)) = some (r1,r2,r3):=by rw [if_neg (show ¬ (false = true) by decide)] at H;exact H
  clear H
  have H:=H1
  clear H1
  simp only [Option.some.injEq,Prod.mk.injEq] at H
  obtain ⟨rfl,rfl,rfl⟩:=H
  go_enter Try.func80,Try.ntmps80
  go_wp2_with (first|((with_reducible refine gate_callee (f:=79) rfl ?_);refine goesL_ (some 12) rfl rfl Try.func79 (by kernel_rfl) rfl #[.slice A0 l0.length c0] rfl (by (try simp only [List.map_toArray,List.map_cons,List.map_nil]);first|done|rfl|(simp only [List.length_drop,List.length_take];rfl)) ?_;(with_reducible refine (nums_Take.calls _ _ l0 t145 t146 false _ ?side1 ?side2 A3.out).mono ?_);(case side1 => repeat (first|exact HR0.out|(with_reducible refine Kd.C_alloc ?_ _)|(with_reducible refine Kd.C_drewN ?_ _)|(with_reducible refine Kd.C_drew ?_)));(case side2 => exact HC0.out);rintro e w26 ⟨v148,rfl,ho0,hb⟩;refine ⟨_,rfl,?_⟩;have n0_:=Aside0.mk (Kd.R_lower ho0 (below_size (by repeat (first|(with_reducible first|exact HB.out|apply below_alloc|apply pw_below_drewN|apply below_drew1)|exact HB.out))));have n1_:=Aside0.mk (below_step (by repeat (first|(with_reducible first|exact HB.out|apply below_alloc|apply pw_below_drewN|apply below_drew1)|exact HB.out)) hb);clear HB;have HO149:=n0_;have HB:=n1_;clear n0_ n1_;(try clear hb);(try clear hb2);(try clear hk);(try clear hi);(try clear ho0)))
  go_ret3
  exact ⟨_,by first|rfl|(simp [errW_none,errW_some] <;> rfl)|(simp [*,errW_none,errW_some] <;> rfl),by first|exact Kd.R_nil _ _ _ _ _|exact Kd.N_nil _ _ _ _ _|exact Kd.V_nil _ _ _ _ _|exact Kd.Q_nil _ _ _ _ _|exact Kd.S_nil _ _ _ _ _,by repeat (first|(with_reducible first|exact HB.out|apply below_alloc|apply pw_below_drewN|apply below_drew1)|exact HB.out)⟩

 subst c4
 have H1 : (if t145 > (IntKind.u64.wrap (mx a1 0)) then (some ((⟨#[]⟩ : BA),([] : List Int),false)) else (if a1 < 0 then (some ((⟨#[]⟩ : BA),([] : List Int),false)) else (if t145 > (IntKind.u64.wrap ((t146.length : Int))) then (some ((⟨#[]⟩ : BA),([] : List Int),false)) else (if 0 ≤ t145 then (if t145 ≤ (t146.length : Int) then ((slices_Clone_byte_byte.f (t146.drop (t145 : Int).toNat)).bind fun t158 => (some (strOfNums (t146.take (t145 : Int).toNat),t158,true))) else (none)) else (none))))) = some (r1,r2,r3):=by rw [if_pos rfl] at H;exact H
 clear H
 have H:=H1
 clear H1
 obtain ⟨ji5,hji5⟩ : ∃ j_ : Int,(mx a1 0) = j_:=⟨_,rfl⟩
 replace H : (if t145 > (IntKind.u64.wrap (ji5)) then (some ((⟨#[]⟩ : BA),([] : List Int),false)) else (if a1 < 0 then (some ((⟨#[]⟩ : BA),([] : List Int),false)) else (if t145 > (IntKind.u64.wrap ((t146.length : Int))) then (some ((⟨#[]⟩ : BA),([] : List Int),false)) else (if 0 ≤ t145 then (if t145 ≤ (t146.length : Int) then ((slices_Clone_byte_byte.f (t146.drop (t145 : Int).toNat)).bind fun t158 => (some (strOfNums (t146.take (t145 : Int).toNat),t158,true))) else (none)) else (none))))) = some (r1,r2,r3):=by first|(rw [hji5] at H;exact H)|(simp only [hji5] at H ⊢;exact H)
 (try rw [hji5] at A3)
 (try (have hji5l : 0 ≤ ji5:=by (rw [← hji5];unfold mx;(repeat' split) <;> omega)))
 (try (have hji5m : 0 ≤ ji5:=by omega))
 have hji5_ : (if a1 < 0 then 0 else a1) = ji5:=hji5
 by_cases c6 : t145 > (IntKind.u64.wrap (ji5))
 ·rw [if_pos c6] at H
  have c6b0 : decide ((IntKind.u64.wrap (ji5)) < t145) = true:=decide_eq_true c6
  clear c6
  simp only [Option.some.injEq,Prod.mk.injEq] at H
  obtain ⟨rfl,rfl,rfl⟩:=H
  go_enter Try.func80,Try.ntmps80
  go_wp2_with (first|((with_reducible refine gate_callee (f:=79) rfl ?_);refine goesL_ (some 12) rfl rfl Try.func79 (by kernel_rfl) rfl #[.slice A0 l0.length c0] rfl (by (try simp only [List.map_toArray,List.map_cons,List.map_nil]);first|done|rfl|(simp only [List.length_drop,List.length_take];rfl)) ?_;(with_reducible refine (nums_Take.calls _ _ l0 t145 t146 true _ ?side1 ?side2 A3.out).mono ?_);(case side1 => repeat (first|exact HR0.out|(with_reducible refine Kd.C_alloc ?_ _)|(with_reducible refine Kd.C_drewN ?_ _)|(with_reducible refine Kd.C_drew ?_)));(case side2 => exact HC0.out);rintro e w7 ⟨v148,rfl,ho0,hb⟩;refine ⟨_,rfl,?_⟩;have n0_:=Aside0.mk (Kd.R_lower ho0 (below_size (by repeat (first|(with_reducible first|exact HB.out|apply below_alloc|apply pw_below_drewN|apply below_drew1)|exact HB.out))));have n1_:=Aside0.mk (below_step (by repeat (first|(with_reducible first|exact HB.out|apply below_alloc|apply pw_below_drewN|apply below_drew1)|exact HB.out)) hb);clear HB;have HO149:=n0_;have HB:=n1_;clear n0_ n1_;(try clear hb);(try clear hb2);(try clear hk);(try clear hi);(try clear ho0)))
  go_ret3
  exact ⟨_,by first|rfl|(simp [errW_none,errW_some] <;> rfl)|(simp only [← hji5];first|rfl|(simp [errW_none,errW_some] <;> rfl))|(simp [*,errW_none,errW_some] <;> rfl),by first|exact Kd.R_nil _ _ _ _ _|exact Kd.N_nil _ _ _ _ _|exact Kd.V_nil _ _ _ _ _|exact Kd.Q_nil _ _ _ _ _|exact Kd.S_nil _ _ _ _ _,by repeat (first|(with_reducible first|exact HB.out|apply below_alloc|apply pw_below_drewN|apply below_drew1)|exact HB.out)⟩
 ·rw [if_neg c6] at H
  have c6b0 : decide ((IntKind.u64.wrap (ji5)) < t145) = false:=decide_eq_false c6
  clear c6
  by_cases c8 : a1 < 0
  ·rw [if_pos c8] at H
   have c8b0 : decide (a1 < 0) = true:=decide_eq_true c8
   clear c8
   simp only [Option.some.injEq,Prod.mk.injEq] at H
   obtain ⟨rfl,rfl,rfl⟩:=H
   go_enter Try.func80,Try.ntmps80
   go_wp2_with (first|((with_reducible refine gate_callee (f:=79) rfl ?_);refine goesL_ (some 12) rfl rfl Try.func79 (by kernel_rfl) rfl #[.slice A0 l0.length c0] rfl (by (try simp only [List.map_toArray,List.map_cons,List.map_nil]);first|done|rfl|(simp only [List.length_drop,List.length_take];rfl)) ?_;(with_reducible refine (nums_Take.calls _ _ l0 t145 t146 true _ ?side1 ?side2 A3.out).mono ?_);(case side1 => repeat (first|exact HR0.out|(with_reducible refine Kd.C_alloc ?_ _)|(with_reducible refine Kd.C_drewN ?_ _)|(with_reducible refine Kd.C_drew ?_)));(case side2 => exact HC0.out);rintro e w9 ⟨v148,rfl,ho0,hb⟩;refine ⟨_,rfl,?_⟩;have n0_:=Aside0.mk (Kd.R_lower ho0 (below_size (by repeat (first|(with_reducible first|exact HB.out|apply below_alloc|apply pw_below_drewN|apply below_drew1)|exact HB.out))));have n1_:=Aside0.mk (below_step (by repeat (first|(with_reducible first|exact HB.out|apply below_alloc|apply pw_below_drewN|apply below_drew1)|exact HB.out)) hb);clear HB;have HO149:=n0_;have HB:=n1_;clear n0_ n1_;(try clear hb);(try clear hb2);(try clear hk);(try clear hi);(try clear ho0)))
   go_ret3
   exact ⟨_,by first|rfl|(simp [errW_none,errW_some] <;> rfl)|(simp only [← hji5];first|rfl|(simp [errW_none,errW_some] <;> rfl))|(simp [*,errW_none,errW_some] <;> rfl),by first|exact Kd.R_nil _ _ _ _ _|exact Kd.N_nil _ _ _ _ _|exact Kd.V_nil _ _ _ _ _|exact Kd.Q_nil _ _ _ _ _|exact Kd.S_nil _ _ _ _ _,by repeat (first|(with_reducible first|exact HB.out|apply below_alloc|apply pw_below_drewN|apply below_drew1)|exact HB.out)⟩
  ·rw [if_neg c8] at H
   have c8b0 : decide (a1 < 0) = false:=decide_eq_false c8
   clear c8
   by_cases c10 : t145 > (IntKind.u64.wrap ((t146.length : Int)))
   ·rw [if_pos c10] at H
    have c10b0 : decide ((IntKind.u64.wrap ((t146.length : Int))) < t145) = true:=decide_eq_true c10
    clear c10
    simp only [Option.some.injEq,Prod.mk.injEq] at H
    obtain ⟨rfl,rfl,rfl⟩:=H
    go_enter Try.func80,Try.ntmps80
    go_wp2_with (first|((with_reducible refine gate_callee (f:=79) rfl ?_);refine goesL_ (some 12) rfl rfl Try.func79 (by kernel_rfl) rfl #[.slice A0 l0.length c0] rfl (by (try simp only [List.map_toArray,List.map_cons,List.map_nil]);first|done|rfl|(simp only [List.length_drop,List.length_take];rfl)) ?_;(with_reducible refine (nums_Take.calls _ _ l0 t145 t146 true _ ?side1 ?side2 A3.out).mono ?_);(case side1 => repeat (first|exact HR0.out|(with_reducible refine Kd.C_alloc ?_ _)|(with_reducible refine Kd.C_drewN ?_ _)|(with_reducible refine Kd.C_drew ?_)));(case side2 => exact HC0.out);rintro e w11 ⟨v148,rfl,ho0,hb⟩;refine ⟨_,rfl,?_⟩;have n0_:=Aside0.mk (Kd.R_lower ho0 (below_size (by repeat (first|(with_reducible first|exact HB.out|apply below_alloc|apply pw_below_drewN|apply below_drew1)|exact HB.out))));have n1_:=Aside0.mk (below_step (by repeat (first|(with_reducible first|exact HB.out|apply below_alloc|apply pw_below_drewN|apply below_drew1)|exact HB.out)) hb);clear HB;have HO149:=n0_;have HB:=n1_;clear n0_ n1_;(try clear hb);(try clear hb2);(try clear hk);(try clear hi);(try clear ho0);obtain ⟨Ao12,co12,eo12⟩:=Kd.R_slice HO149.out;subst eo12))
    go_ret3
    exact ⟨_,by first|rfl|(simp [errW_none,errW_some] <;> rfl)|(simp only [← hji5];first|rfl|(simp [errW_none,errW_some] <;> rfl))|(simp [*,errW_none,errW_some] <;> rfl),by first|exact Kd.R_nil _ _ _ _ _|exact Kd.N_nil _ _ _ _ _|exact Kd.V_nil _ _ _ _ _|exact Kd.Q_nil _ _ _ _ _|exact Kd.S_nil _ _ _ _ _,by repeat (first|(with_reducible first|exact HB.out|apply below_alloc|apply pw_below_drewN|apply below_drew1)|exact HB.out)⟩
   ·rw [if_neg c10] at H
    have c10b0 : decide ((IntKind.u64.wrap ((t146.length : Int))) < t145) = false:=decide_eq_false c10
    clear c10
    by_cases c13 : 0 ≤ t145
    rotate_left
    ·rw [if_neg c13] at H
     exact absurd H (by simp)
    rw [if_pos c13] at H
    have c13b0:=eq_true c13
    have c13b1 : decide (0 ≤ t145) = true:=decide_eq_true c13
    clear c13
    by_cases c14 : t145 ≤ (t146.length : Int)
    rotate_left
    ·rw [if_neg c14] at H
     exact absurd H (by simp)
    rw [if_pos c14] at H
    have c14b0:=eq_true c14
    have c14b1 : decide (t145 ≤ (t146.length : Int)) = true:=decide_eq_true c14
    clear c14
    obtain ⟨y150,hy150⟩ : ∃ y_ : List Int,y_ = (t146.take (t145 : Int).toNat):=⟨_,rfl⟩
    replace H : ((slices_Clone_byte_byte.f (t146.drop (t145 : Int).toNat)).bind fun t158 => (some (strOfNums y150,t158,true))) = some (r1,r2,r3):=by first|(rw [hy150];with_reducible exact H)|(have H2_:=(Option.bind_some _ _).symm.trans H;rw [hy150];with_reducible exact H2_)|(have H2_:=(Option.bind_some _ _).symm.trans H;with_reducible exact H2_)|with_reducible exact H|(rw [hy150];exact H)|exact H
    have Ny150:=Aside0.mk hy150
    clear hy150
    have c15b0:=eq_true (of_decide_eq_true (by first|(with_reducible assumption)|assumption) : 0 ≤ t145)
    have c16b0:=eq_true (of_decide_eq_true (by first|(with_reducible assumption)|assumption) : t145 ≤ (t146.length : Int))
    obtain ⟨y154,hy154⟩ : ∃ y_ : List Int,y_ = (t146.drop (t145 : Int).toNat):=⟨_,rfl⟩
    replace H : ((slices_Clone_byte_byte.f y154).bind fun t158 => (some (strOfNums y150,t158,true))) = some (r1,r2,r3):=by first|(rw [hy154];with_reducible exact H)|(have H2_:=(Option.bind_some _ _).symm.trans H;rw [hy154];with_reducible exact H2_)|(have H2_:=(Option.bind_some _ _).symm.trans H;with_reducible exact H2_)|with_reducible exact H|(rw [hy154];exact H)|exact H
    have Ny154:=Aside0.mk hy154
    clear hy154
    replace H:=Option.bind_eq_some_iff.mp H
    obtain ⟨t158,A170,H⟩:=H
    replace H : (some (strOfNums y150,t158,true)) = some (r1,r2,r3):=H
    have A17:=Aside0.mk A170
    clear A170
    simp only [Option.some.injEq,Prod.mk.injEq] at H
    obtain ⟨rfl,rfl,rfl⟩:=H
    go_enter Try.func80,Try.ntmps80
    try go_wp2_with (first|((with_reducible refine gate_callee (f:=79) rfl ?_);refine goesL_ (some 12) rfl rfl Try.func79 (by kernel_rfl) rfl #[.slice A0 l0.length c0] rfl (by (try simp only [List.map_toArray,List.map_cons,List.map_nil]);first|done|rfl|(simp only [List.length_drop,List.length_take];rfl)) ?_;(with_reducible refine (nums_Take.calls _ _ l0 t145 t146 true _ ?side1 ?side2 A3.out).mono ?_);(case side1 => repeat (first|exact HR0.out|(with_reducible refine Kd.C_alloc ?_ _)|(with_reducible refine Kd.C_drewN ?_ _)|(with_reducible refine Kd.C_drew ?_)));(case side2 => exact HC0.out);rintro e w18 ⟨v148,rfl,ho0,hb⟩;refine ⟨_,rfl,?_⟩;have n0_:=Aside0.mk (Kd.R_lower ho0 (below_size (by repeat (first|(with_reducible first|exact HB.out|apply below_alloc|apply pw_below_drewN|apply below_drew1)|exact HB.out))));have n1_:=Aside0.mk (below_step (by repeat (first|(with_reducible first|exact HB.out|apply below_alloc|apply pw_below_drewN|apply below_drew1)|exact HB.out)) hb);clear HB;have HO149:=n0_;have HB:=n1_;clear n0_ n1_;(try clear hb);(try clear hb2);(try clear hk);(try clear hi);(try clear ho0);obtain ⟨Ao19,co19,eo19⟩:=Kd.R_slice HO149.out;subst eo19))
    have n0_:=Aside0.mk (Kd.R_drew HO149.out)
    have n1_:=Aside0.mk (below_drew1 HB.out)
    clear HO149
    clear HB
    have HO149:=n0_
    have HB:=n1_
    clear n0_ n1_
    have q21 : (t145 : Int) ≤ ((t146.length : Int) : Int):=of_decide_eq_true (by first|(with_reducible assumption)|assumption)
    obtain ⟨i021,hi021,_,hsz21,_⟩:=info_parts info5
    have hroom21 : t146.length ≤ co19:=(Kd.R_reads' HO149.out).2.1
    have hC21 : Kd.C (Kd.int .u8) _ Ao19 t146.length t146:=(Kd.R_reads' HO149.out).2.2
    have hcut21:=cut_to (P:=Try.prog) 26 5 .u64 Try.underlying26 hi021 Ao19 t146.length co19 t145 (of_decide_eq_true (by first|(with_reducible assumption)|assumption)) q21 hroom21
    have hr21:=Kd.C_take (m:=(t145 : Int).toNat) hC21 (by omega)
    have hy21 : y150.length = (t145 : Int).toNat:=(by rw [Ny150.out,List.length_take];omega)
    rw [← Ny150.out] at hr21
    rw [← hy21] at hcut21
    have HR153:=Aside0.mk hr21
    have HC153:=Aside0.mk (show y150.length ≤ co19 from by omega)
    clear hr21 hC21 hroom21 hi021 hsz21
    have KY21:=Aside0.mk hy21
    clear hy21
    have KL21:=Aside0.mk (show (t145 : Int).toNat ≤ t146.length from by omega)
    replace q21:=eq_true q21
    have q22 : (t145 : Int) ≤ ((t146.length : Int) : Int):=of_decide_eq_true (by first|(with_reducible assumption)|assumption)
    obtain ⟨i022,hi022,_,hsz22,_⟩:=info_parts info5
    have hroom22 : t146.length ≤ co19:=(Kd.R_reads' HO149.out).2.1
    have hC22 : Kd.C (Kd.int .u8) _ Ao19 t146.length t146:=(Kd.R_reads' HO149.out).2.2
    have q022 : (0 : Int) ≤ (t145 : Int):=of_decide_eq_true (by first|(with_reducible assumption)|assumption)
    have hcut22:=cut_from (P:=Try.prog) 26 5 .u64 Try.underlying26 hi022 1 hsz22 Ao19 t146.length co19 t145 q022 q22
    have hr22:=Kd.C_drop (m:=(t145 : Int).toNat) (c:=co19) hC22 (by omega) hroom22
    obtain ⟨A22,hA22⟩ : ∃ A1,A1 = (if co19 = (t145 : Int).toNat then Ao19 else (Ao19 : Option Addr).map (·.add ((t145 : Int).toNat * 1))):=⟨_,rfl⟩
    obtain ⟨c22,hc22⟩ : ∃ c1,c1 = co19 - (t145 : Int).toNat:=⟨_,rfl⟩
    have hy22 : y154.length = t146.length - (t145 : Int).toNat:=(by rw [Ny154.out,List.length_drop] <;> omega)
    rw [show (t146).drop (t145 : Int).toNat = y154 from Ny154.out.symm] at hr22
    replace hr22 : Kd.C (Kd.int .u8) _ A22 y154.length y154:=(by rw [hA22];exact hr22)
    rw [← hy22,← hA22,← hc22] at hcut22
    have HR157:=Aside0.mk hr22
    have HC157:=Aside0.mk (show y154.length ≤ c22 from by rw [hy22,hc22];exact Nat.sub_le_sub_right hroom22 _)
    clear hr22 hC22 hroom22 hi022 hsz22 hc22
    have KY22:=Aside0.mk hy22
    have KA22:=Aside0.mk hA22
    clear hy22 hA22
    have KL22:=Aside0.mk (show (t145 : Int).toNat ≤ t146.length from by omega)
    replace q22:=eq_true q22
    have hcv23:=Kd.C_string (P:=Try.prog) (A:=Ao19) (c:=co19) Try.underlying26 Try.underlying5 Try.underlying9 (by repeat (first|(with_reducible exact HR153.out)|(with_reducible refine Kd.C_alloc ?_ _)|(with_reducible refine Kd.C_drewN ?_ _)|(with_reducible refine Kd.C_drew ?_)|exact HR153.out))
    obtain ⟨S_,hS0_,hS1_,hS2_⟩:=conv_stays (P:=Try.prog) (A:=Ao19) (c:=co19) Try.underlying26 Try.underlying5 Try.underlying9 (by repeat (first|(with_reducible exact HR153.out)|(with_reducible refine Kd.C_alloc ?_ _)|(with_reducible refine Kd.C_drewN ?_ _)|(with_reducible refine Kd.C_drew ?_)|exact HR153.out))
    refine start_ (n:=11) (S:=fun w' => S_ w') (ds:=[]) #[ff,ff,ff,ff,ff,ff,ff,ff,ff,ff,ff] (by kernel_rfl) rfl rfl ((by first|exact hS0_|exact hS1_ _ _ hS0_ (below_drew (Below.refl _ _)))) (fun hHeld => ?_);refine with_tabW nums_TakeText.tab4 nums_TakeText.bits4 (fun HT_ HW_ => ?_)
    generalize w18.drew = w20 at HO149 HB HR153 HR157 hHeld ⊢
    refine pure_ (i:=0) (N:=some 36) (v:=?_) (a':=?_) #[tt,ff,ff,ff,ff,ff,ff,ff,ff,ff,ff] rfl rfl (any_of HT_.out (by kernel_rfl)) (fun _ _ _ h => h) (Or.inl ⟨by rfl,?_⟩) ?_ ?_
    rotate_left
    ·intro w'
     go_simp
     with_reducible rfl
    rotate_left
    ·simp only [Act.put,sA,sZ,sS,i64_w,i32_w]
     rfl
    refine pure_ (i:=1) (N:=some 37) (v:=?_) (a':=?_) #[tt,tt,ff,ff,ff,ff,ff,ff,ff,ff,ff] rfl rfl (any_of HT_.out (by kernel_rfl)) (fun _ _ _ h => h) (Or.inl ⟨by rfl,?_⟩) ?_ ?_
    rotate_left
    ·intro w'
     go_simp
     with_reducible rfl
    rotate_left
    ·simp only [Act.put,sA,sZ,sS,i64_w,i32_w]
     rfl
    refine pure_ (i:=2) (N:=some 38) (v:=?_) (a':=?_) #[tt,tt,tt,ff,ff,ff,ff,ff,ff,ff,ff] rfl rfl (any_of HT_.out (by kernel_rfl)) (fun _ _ _ h => h) (Or.inl ⟨by rfl,?_⟩) ?_ ?_
    rotate_left
    ·intro w'
     go_simp
     with_reducible rfl
    rotate_left
    ·simp only [Act.put,sA,sZ,sS,i64_w,i32_w]
     rfl
    refine pure_ (i:=4) (N:=some 40) (v:=?_) (a':=?_) #[tt,tt,tt,ff,tt,ff,ff,ff,ff,ff,ff] rfl rfl (any_of HT_.out (by kernel_rfl)) (fun _ _ _ h => h) (Or.inl ⟨by rfl,?_⟩) ?_ ?_
    rotate_left
    ·intro w'
     go_simp
     with_reducible rfl
    rotate_left
    ·simp only [Act.put,sA,sZ,sS,i64_w,i32_w]
     rfl
    refine pure_ (i:=5) (N:=some 41) (v:=?_) (a':=?_) #[tt,tt,tt,ff,tt,tt,ff,ff,ff,ff,ff] rfl rfl (any_of HT_.out (by kernel_rfl)) (fun _ _ _ h => h) (Or.inl ⟨by rfl,?_⟩) ?_ ?_
    rotate_left
    ·intro w'
     go_simp
     with_reducible rfl
    rotate_left
    ·simp only [Act.put,sA,sZ,sS,i64_w,i32_w]
     rfl
    refine pure_ (i:=6) (N:=some 42) (v:=?_) (a':=?_) #[tt,tt,tt,ff,tt,tt,tt,ff,ff,ff,ff] rfl rfl (any_of HT_.out (by kernel_rfl)) (fun _ _ _ h => h) (Or.inl ⟨by rfl,?_⟩) ?_ ?_
    rotate_left
    ·intro w'
     go_simp
     with_reducible rfl
    rotate_left
    ·simp only [Act.put,sA,sZ,sS,i64_w,i32_w]
     rfl
    refine take_ (i:=3) (N:=some 39) (v:=?_) (a':=?_) #[tt,tt,tt,tt,tt,tt,tt,ff,ff,ff,ff] rfl rfl (take_ofW HT_.out HW_.out (by kernel_rfl)) (fun _ _ _ h => h) (Or.inl ⟨by rfl,?_⟩) hHeld ?_ ?_
    rotate_left
    ·intro w' s0
     have s1_:=hS2_ _ s0
     go_simp
     with_reducible rfl
    rotate_left
    ·simp only [Act.put,sA,sZ,sS,i64_w,i32_w]
     rfl
    refine one_ (i:=7) (N:=some 43) #[tt,tt,tt,tt,tt,tt,tt,tt,ff,ff,ff] rfl rfl (one_of HT_.out (by kernel_rfl)) (by decide) (fun K hK => ?_)
    refine goes_ Try.func76 (by kernel_rfl) rfl #[.slice A22 y154.length c22] (by rfl) rfl rfl (by (try simp only [List.map_toArray,List.map_cons,List.map_nil]);first|done|rfl|(simp only [List.length_drop,List.length_take];rfl)) ?_
    with_reducible refine (slices_Clone_byte_byte.calls _ _ y154 t158 _ ?side1 ?side2 A17.out).mono ?_
    (case side1 => repeat (first|exact (by repeat (first|(with_reducible exact HR157.out)|(with_reducible refine Kd.C_alloc ?_ _)|(with_reducible refine Kd.C_drewN ?_ _)|(with_reducible refine Kd.C_drew ?_)|exact HR157.out))|(with_reducible refine Kd.C_alloc ?_ _)|(with_reducible refine Kd.C_drewN ?_ _)|(with_reducible refine Kd.C_drew ?_)))
    (case side2 => exact HC157.out)
    rintro e w24 ⟨v159,rfl,ho0,hb⟩
    have hHn_:=hS1_ _ _ hHeld hb
    refine ⟨_,rfl,?_⟩
    have n0_:=Aside0.mk (Kd.R_elder' (by (with_reducible repeat (first|apply zA|apply zN|apply zD));exact HO149.out) (Kd.R_base ho0) hb)
    have n1_:=Aside0.mk (Kd.R_lower (Kd.R_new' ho0 (Kd.R_lt (by (with_reducible repeat (first|apply zA|apply zN|apply zD));exact HO149.out))) (below_size (by repeat (first|(with_reducible first|exact HB.out|apply below_alloc|apply pw_below_drewN|apply below_drew1)|exact HB.out))))
    have n2_:=Aside0.mk (Kd.C_below (by repeat (first|(with_reducible exact HR153.out)|(with_reducible refine Kd.C_alloc ?_ _)|(with_reducible refine Kd.C_drewN ?_ _)|(with_reducible refine Kd.C_drew ?_)|exact HR153.out)) hb)
    have n3_:=Aside0.mk (Kd.C_below (by repeat (first|(with_reducible exact HR157.out)|(with_reducible refine Kd.C_alloc ?_ _)|(with_reducible refine Kd.C_drewN ?_ _)|(with_reducible refine Kd.C_drew ?_)|exact HR157.out)) hb)
    have n4_:=Aside0.mk (below_step (by repeat (first|(with_reducible first|exact HB.out|apply below_alloc|apply pw_below_drewN|apply below_drew1)|exact HB.out)) hb)
    clear HO149
    clear HR153
    clear HR157
    clear HB
    have HO149:=n0_
    have HO160:=n1_
    have HR153:=n2_
    have HR157:=n3_
    have HB:=n4_
    clear n0_ n1_ n2_ n3_ n4_
    (try clear hb)
    (try clear hb2)
    (try clear hk)
    (try clear hi)
    (try clear ho0)
    refine hK.out _ _ (hHn_) (fun hHeld => ?_)
    clear hK K
    refine norm_ (a':=?_) ?_ ?_
    rotate_left
    ·show Act.put _ (some 43) _ = _
     simp only [Act.put,sA,sZ,sS,i64_w,i32_w]
     rfl
    refine pure_ (i:=8) (N:=some 4) (v:=?_) (a':=?_) #[tt,tt,tt,tt,tt,tt,tt,tt,tt,ff,ff] rfl rfl (any_of HT_.out (by kernel_rfl)) (fun _ _ _ h => h) (Or.inl ⟨by rfl,?_⟩) ?_ ?_
    rotate_left
    ·intro w'
     go_simp
     with_reducible rfl
    rotate_left
    ·simp only [Act.put,sA,sZ,sS,i64_w,i32_w]
     rfl
    refine pure_ (i:=9) (N:=some 5) (v:=?_) (a':=?_) #[tt,tt,tt,tt,tt,tt,tt,tt,tt,tt,ff] rfl rfl (any_of HT_.out (by kernel_rfl)) (fun _ _ _ h => h) (Or.inl ⟨by rfl,?_⟩) ?_ ?_
    rotate_left
    ·intro w'
     go_simp
     with_reducible rfl
    rotate_left
    ·simp only [Act.put,sA,sZ,sS,i64_w,i32_w]
     rfl
    refine pure_ (i:=10) (N:=some 6) (v:=?_) (a':=?_) #[tt,tt,tt,tt,tt,tt,tt,tt,tt,tt,tt] rfl rfl (any_of HT_.out (by kernel_rfl)) (fun _ _ _ h => h) (Or.inl ⟨by rfl,?_⟩) ?_ ?_
    rotate_left
    ·intro w'
     go_simp
     with_reducible rfl
    rotate_left
    ·simp only [Act.put,sA,sZ,sS,i64_w,i32_w]
     rfl
    refine done_ (done_of HT_.out (by kernel_rfl)) ?_
    try go_wp2
    go_ret3
    exact ⟨_,by first|rfl|(simp [errW_none,errW_some] <;> rfl)|(simp only [← hji5];first|rfl|(simp [errW_none,errW_some] <;> rfl))|(simp [*,errW_none,errW_some] <;> rfl),by (with_reducible repeat (first|apply zA|apply zN|apply zD));exact Kd.R_mono HO160.out (fun _ hk => trivial),by repeat (first|(with_reducible first|exact HB.out|apply below_alloc|apply pw_below_drewN|apply below_drew1)|exact HB.out)⟩
end Go.Proofs.Ytcagajobpnpicaa.P

end

section
set_option linter.unusedVariables false
set_option linter.unusedSimpArgs false
namespace Go.Proofs.YtcagajobpnpicaaG
open Go Go.RowKit Go.Proofs.YtcagajobpnpicaaR Go.Proofs.Ytcagajobpnpicaa.P Go.Proofs.YtcagajobpnpicaaW.PrintWords
attribute [local go_sem] Oper.semAt_some run_store_fn

/-- A row of bytes that is read, in these blocks. -/
abbrev Fb (w : World) (ok : Nat → Prop) (A : Option Addr) (l : List Int) : Prop:=Kd.F (Kd.int .u8) w ok A l.length l
/-- What was there, or is new. -/
abbrev orNew (ok : Nat → Prop) (w : World) : Nat → Prop:=fun k=>ok k ∨ w.heap.size ≤ k

theorem F_int {k : IntKind} {w : World} {A : Option Addr} {n : Nat} {xs : List Int} (h : (Kd.int k).C w A n xs) : Kd.F (Kd.int k) w (fun k=>k < w.heap.size) A n xs:=fun W' hW=>⟨h.1,h.2.1,fun hn=>by
 obtain ⟨ad,e,hc⟩:=h.2.2 hn
 refine ⟨ad,e,fun j p hp=>?_⟩
 obtain ⟨c,hs,hk,hcell⟩:=hc j p hp
 refine ⟨c,hs,hk,fun i u hu=>?_⟩
 have h1:=hcell i u hu
 have hlt:=World.block_lt_of_cell? w _ h1
 have h2:=hW _ hlt hlt
 rw [← h1]
 unfold World.cell?
 rw [h2]⟩

/-- The reader's block: the bytes that are left, and whether they said something else. -/
def Rd (r : Nat) (ok : Nat → Prop) (w : World) (l : List Int) (bad : Bool) : Prop :=
 ∃ A c,w.heap[r]? = some (.cells #[.slice A l.length c,.bool bad] 69) ∧ l.length ≤ c ∧ Fb w ok A l
section
variable {r : Nat} {ok ok' : Nat → Prop} {w w' w1 : World} {l l1 : List Int} {bad bad1 : Bool}
theorem Rd.lt (h : Rd r ok w l bad) : r < w.heap.size:=by obtain ⟨A,c,h1,_⟩:=h;exact blk_lt h1
theorem Rd.mono (h : Rd r ok w l bad) (hok : ∀ k,ok k → ok' k) : Rd r ok' w l bad:=by
 obtain ⟨A,c,h1,h2,h3⟩:=h
 exact ⟨A,c,h1,h2,Kd.F_mono h3 hok⟩
theorem Rd.keep (h : Rd r ok w l bad) (hb : Below w.heap.size w w') : Rd r (fun k=>ok k ∧ k < w.heap.size) w' l bad:=by
 obtain ⟨A,c,h1,h2,h3⟩:=h
 exact ⟨A,c,(hb.block r (blk_lt h1)).trans h1,h2,Kd.F_old h3 hb⟩
theorem Rd.far (h : Rd r ok w l bad) {p : Addr} (hp : p.block ≠ r) (hok : ∀ k,ok k → k ≠ p.block) (u : Value) : Rd r ok (w.setCell p u) l bad:=by
 obtain ⟨A,c,h1,h2,h3⟩:=h
 exact ⟨A,c,blk_far h1 (fun e=>hp e.symm) u,h2,Kd.F_far h3 hok u⟩
/-- Behind one thing taken. -/
theorem Rd.put {A1 : Option Addr} {c1 : Nat} (h : Rd r ok w l bad) (hok : ∀ k,ok k → k ≠ r) (hb : Below w.heap.size w w1) (hl : l1.length ≤ c1) (hC : Fb w1 (orNew ok w) A1 l1) :
  Stays (· = r) w ((w1.setCell ⟨r,0,none⟩ (.slice A1 l1.length c1)).setCell ⟨r,1,none⟩ (.bool bad1)) ∧ Rd r (orNew ok w) ((w1.setCell ⟨r,0,none⟩ (.slice A1 l1.length c1)).setCell ⟨r,1,none⟩ (.bool bad1)) l1 bad1:=by
 obtain ⟨A,c,h1,h2,h3⟩:=h
 have hr:=blk_lt h1
 have hb1:=(hb.block r hr).trans h1
 have hne : ∀ k,orNew ok w k → k ≠ r:=fun k hk=>hk.elim (hok k) (fun h=>by omega)
 refine ⟨(Stays.of_below hb).trans ((Stays.setCell (C:=(· = r)) (p:=⟨r,0,none⟩) rfl _).trans (Stays.setCell (C:=(· = r)) (p:=⟨r,1,none⟩) rfl _)),A1,c1,?_,hl,?_⟩
 ·have e1:=blk_set hb1 0 (.slice A1 l1.length c1)
  have e2:=blk_set e1 1 (.bool bad1)
  exact e2
 ·exact Kd.F_far (p:=⟨r,1,none⟩) (Kd.F_far (p:=⟨r,0,none⟩) hC hne _) hne _
end
theorem new_reads {e : Nat} {w w' : World} {v : Value} {l : List Int} (ok : Nat → Prop) (h : Kd.R (Kd.int .u8) e w' w.heap.size (fun _=>True) v l) : ∃ A c,v = .slice A l.length c ∧ l.length ≤ c ∧ Fb w' (orNew ok w) A l:=by
 obtain ⟨A,c,rfl,hl,_⟩:=Kd.R_reads h
 exact ⟨A,c,rfl,hl,Kd.F_mono (Kd.R_F (Kd.R_bound h)) (fun k hk=>.inr hk.2.1)⟩


/-- The edit that is made: its box. -/
abbrev eBx (v : Value) (a1 a2 a3 : Int) : Obj:=.cells #[v,.int .u64 a1,.int .u64 a2,.int .u64 a3] 25

set_option maxRecDepth 100000 in
set_option maxHeartbeats 1000000 in
theorem num_calls (r : Nat) (l : List Int) (bad : Bool) (ok : Nat → Prop) (hok : ∀ k,ok k → k ≠ r) (w : World) (h : Rd r ok w l bad) (z1 : Int) (z2 : List Int) (z3 : Bool) (hz : nums_Take.f l = some (z1,z2,z3)) :
  Calls Try.prog 68 #[.pointer (some ⟨r,0,none⟩)] w fun e w'=>e = .returned (.int .u64 z1) ∧ Stays (· = r) w w' ∧ Rd r (orNew ok w) w' z2 (bad || !z3):=by
 have HR:=Aside0.mk h
 have HOK:=Aside0.mk hok
 obtain ⟨A,c,hb,hl,hC⟩:=h
 have hcl:=nums_Take.calls A c l z1 z2 z3 w (Kd.F_now hC) hl hz
 have HCL:=Aside0.mk hcl
 have hc0 : w.cell? ⟨r,0,none⟩ = some (.slice A l.length c):=(blk_cell hb 0).trans rfl
 have hc1 : w.cell? ⟨r,1,none⟩ = some (.bool bad):=(blk_cell hb 1).trans rfl
 have hf0:=blk_frozen hb 0
 have hf1:=blk_frozen hb 1
 have Hb:=Aside0.mk hb
 clear hb hl hC hcl hok hz
 have hu:=Try.underlying69
 cases bad
 all_goals
  go_enter Try.func68,Try.ntmps68
  go_wp2_with (go_at_call 79;refine HCL.out.mono ?_;rintro e w1 ⟨v,rfl,hv,hB1⟩;obtain ⟨A1,c1,rfl,hl1,hC1⟩:=new_reads ok hv;clear hv;have HC1:=Aside0.mk hC1;have HL1:=Aside0.mk hl1;have HB1:=Aside0.mk hB1;have hb1:=(hB1.block r (blk_lt Hb.out)).trans Hb.out;clear hc0 hc1 hf0 hf1;have hc0:=(blk_cell hb1 0).trans rfl;have hc1:=(blk_cell hb1 1).trans rfl;have hf0:=blk_frozen hb1 0;have hf1:=blk_frozen hb1 1;have Hb1:=Aside0.mk hb1;clear hC1 hl1 hB1 hb1)
  go_ret
  exact ⟨rfl,Rd.put HR.out HOK.out HB1.out HL1.out HC1.out⟩

set_option maxRecDepth 100000 in
set_option maxHeartbeats 1000000 in
theorem text_calls (r : Nat) (l : List Int) (bad : Bool) (ok : Nat → Prop) (hok : ∀ k,ok k → k ≠ r) (w : World) (h : Rd r ok w l bad) (z1 : ByteArray) (z2 : List Int) (z3 : Bool) (hz : nums_TakeText.f l 64 = some (z1,z2,z3)) :
  Calls Try.prog 69 #[.pointer (some ⟨r,0,none⟩)] w fun e w'=>e = .returned (.string z1) ∧ Stays (· = r) w w' ∧ Rd r (orNew ok w) w' z2 (bad || !z3):=by
 have HR:=Aside0.mk h
 have HOK:=Aside0.mk hok
 obtain ⟨A,c,hb,hl,hC⟩:=h
 have hcl:=nums_TakeText.calls A c l 64 z1 z2 z3 w (Kd.F_now hC) hl hz
 have HCL:=Aside0.mk hcl
 have hc0 : w.cell? ⟨r,0,none⟩ = some (.slice A l.length c):=(blk_cell hb 0).trans rfl
 have hc1 : w.cell? ⟨r,1,none⟩ = some (.bool bad):=(blk_cell hb 1).trans rfl
 have hf0:=blk_frozen hb 0
 have hf1:=blk_frozen hb 1
 have Hb:=Aside0.mk hb
 clear hb hl hC hcl hok hz
 have hu:=Try.underlying69
 cases bad
 all_goals
  go_enter Try.func69,Try.ntmps69
  go_wp2_with (go_at_call 80;refine HCL.out.mono ?_;rintro e w1 ⟨v,rfl,hv,hB1⟩;obtain ⟨A1,c1,rfl,hl1,hC1⟩:=new_reads ok hv;clear hv;have HC1:=Aside0.mk hC1;have HL1:=Aside0.mk hl1;have HB1:=Aside0.mk hB1;have hb1:=(hB1.block r (blk_lt Hb.out)).trans Hb.out;clear hc0 hc1 hf0 hf1;have hc0:=(blk_cell hb1 0).trans rfl;have hc1:=(blk_cell hb1 1).trans rfl;have hf0:=blk_frozen hb1 0;have hf1:=blk_frozen hb1 1;have Hb1:=Aside0.mk hb1;clear hC1 hl1 hB1 hb1)
  go_ret
  exact ⟨rfl,Rd.put HR.out HOK.out HB1.out HL1.out HC1.out⟩

set_option maxRecDepth 100000 in
set_option maxHeartbeats 1000000 in
theorem take1_calls (m g r : Nat) (v : Value) (a1 a2 a3 : Int) (l : List Int) (bad : Bool) (ok : Nat → Prop) (hok : ∀ k,ok k → k ≠ r ∧ k ≠ g) (hgr : g ≠ r) (hmr : m ≠ r) (w : World) (h : Rd r ok w l bad) (hg : w.heap[g]? = some (eBx v a1 a2 a3)) (hm : w.heap[m]? = some (.cells #[f0 50] tSel)) (z1 : Int) (z2 : List Int) (z3 : Bool) (hz : nums_Take.f l = some (z1,z2,z3)) :
  Calls Try.prog 72 #[.pointer (some ⟨r,0,none⟩),.pointer (some ⟨g,0,none⟩),pt m] w fun e w'=>(∃ u,e = .returned u) ∧ Stays (fun k=>k = r ∨ k = g) w w' ∧ Rd r (orNew ok w) w' z2 (bad || !z3) ∧ w'.heap[g]? = some (eBx v z1 a2 a3):=by
 have hu:=Try.underlying25
 have HCL:=Aside0.mk (num_calls r l bad ok (fun k hk=>(hok k hk).1) w h z1 z2 z3 hz)
 have HG:=Aside0.mk hg
 have HOK:=Aside0.mk hok
 have HGR:=Aside0.mk hgr
 have HGL:=Aside0.mk (blk_lt hg)
 have hc0:=box_cell hm
 have hf0:=box_frozen hm
 clear hok h hz hg hm hmr hgr
 go_enter Try.func72,Try.ntmps72
 go_wp2_with (first|(go_at_call 50;refine (sel1_calls _ _).mono ?_;rintro e w' ⟨rfl,rfl⟩)|(go_at_call 68;refine HCL.out.mono ?_;rintro e w1 ⟨rfl,hS1,hR1⟩;have hg1:=(hS1.block g HGL.out HGR.out).trans HG.out;have hx:=(blk_cell hg1 1).trans rfl;have hy:=blk_frozen hg1 1;have HG1:=Aside0.mk hg1;have HS1:=Aside0.mk hS1;have HR1:=Aside0.mk hR1;clear hg1 hS1 hR1 hc0 hf0))
 go_end0
 refine ⟨⟨_,rfl⟩,?_,?_,blk_put HG1.out 1 _ rfl⟩
 ·exact (HS1.out.mono (fun k hk=>.inl hk)).trans (Stays.setCell (C:=fun k=>k = r ∨ k = g) (p:=⟨g,1,none⟩) (.inr rfl) _)
 ·exact Rd.far (p:=⟨g,1,none⟩) HR1.out HGR.out (fun k hk=>hk.elim (fun h=>(HOK.out k h).2) (fun h=>by have:=HGL.out;show k ≠ g;omega)) _

set_option maxRecDepth 100000 in
set_option maxHeartbeats 1000000 in
theorem take2_calls (m g r : Nat) (v : Value) (a1 a2 a3 : Int) (l : List Int) (bad : Bool) (ok : Nat → Prop) (hok : ∀ k,ok k → k ≠ r ∧ k ≠ g) (hgr : g ≠ r) (hmr : m ≠ r) (w : World) (h : Rd r ok w l bad) (hg : w.heap[g]? = some (eBx v a1 a2 a3)) (hm : w.heap[m]? = some (.cells #[f0 51] tSel)) (z1 : Int) (z2 : List Int) (z3 : Bool) (hz : nums_Take.f l = some (z1,z2,z3)) :
  Calls Try.prog 72 #[.pointer (some ⟨r,0,none⟩),.pointer (some ⟨g,0,none⟩),pt m] w fun e w'=>(∃ u,e = .returned u) ∧ Stays (fun k=>k = r ∨ k = g) w w' ∧ Rd r (orNew ok w) w' z2 (bad || !z3) ∧ w'.heap[g]? = some (eBx v a1 z1 a3):=by
 have hu:=Try.underlying25
 have HCL:=Aside0.mk (num_calls r l bad ok (fun k hk=>(hok k hk).1) w h z1 z2 z3 hz)
 have HG:=Aside0.mk hg
 have HOK:=Aside0.mk hok
 have HGR:=Aside0.mk hgr
 have HGL:=Aside0.mk (blk_lt hg)
 have hc0:=box_cell hm
 have hf0:=box_frozen hm
 clear hok h hz hg hm hmr hgr
 go_enter Try.func72,Try.ntmps72
 go_wp2_with (first|(go_at_call 51;refine (sel2_calls _ _).mono ?_;rintro e w' ⟨rfl,rfl⟩)|(go_at_call 68;refine HCL.out.mono ?_;rintro e w1 ⟨rfl,hS1,hR1⟩;have hg1:=(hS1.block g HGL.out HGR.out).trans HG.out;have hx:=(blk_cell hg1 2).trans rfl;have hy:=blk_frozen hg1 2;have HG1:=Aside0.mk hg1;have HS1:=Aside0.mk hS1;have HR1:=Aside0.mk hR1;clear hg1 hS1 hR1 hc0 hf0))
 go_end0
 refine ⟨⟨_,rfl⟩,?_,?_,blk_put HG1.out 2 _ rfl⟩
 ·exact (HS1.out.mono (fun k hk=>.inl hk)).trans (Stays.setCell (C:=fun k=>k = r ∨ k = g) (p:=⟨g,2,none⟩) (.inr rfl) _)
 ·exact Rd.far (p:=⟨g,2,none⟩) HR1.out HGR.out (fun k hk=>hk.elim (fun h=>(HOK.out k h).2) (fun h=>by have:=HGL.out;show k ≠ g;omega)) _

set_option maxRecDepth 100000 in
set_option maxHeartbeats 1000000 in
theorem take3_calls (m g r : Nat) (v : Value) (a1 a2 a3 : Int) (l : List Int) (bad : Bool) (ok : Nat → Prop) (hok : ∀ k,ok k → k ≠ r ∧ k ≠ g) (hgr : g ≠ r) (hmr : m ≠ r) (w : World) (h : Rd r ok w l bad) (hg : w.heap[g]? = some (eBx v a1 a2 a3)) (hm : w.heap[m]? = some (.cells #[f0 52] tSel)) (z1 : Int) (z2 : List Int) (z3 : Bool) (hz : nums_Take.f l = some (z1,z2,z3)) :
  Calls Try.prog 72 #[.pointer (some ⟨r,0,none⟩),.pointer (some ⟨g,0,none⟩),pt m] w fun e w'=>(∃ u,e = .returned u) ∧ Stays (fun k=>k = r ∨ k = g) w w' ∧ Rd r (orNew ok w) w' z2 (bad || !z3) ∧ w'.heap[g]? = some (eBx v a1 a2 z1):=by
 have hu:=Try.underlying25
 have HCL:=Aside0.mk (num_calls r l bad ok (fun k hk=>(hok k hk).1) w h z1 z2 z3 hz)
 have HG:=Aside0.mk hg
 have HOK:=Aside0.mk hok
 have HGR:=Aside0.mk hgr
 have HGL:=Aside0.mk (blk_lt hg)
 have hc0:=box_cell hm
 have hf0:=box_frozen hm
 clear hok h hz hg hm hmr hgr
 go_enter Try.func72,Try.ntmps72
 go_wp2_with (first|(go_at_call 52;refine (sel3_calls _ _).mono ?_;rintro e w' ⟨rfl,rfl⟩)|(go_at_call 68;refine HCL.out.mono ?_;rintro e w1 ⟨rfl,hS1,hR1⟩;have hg1:=(hS1.block g HGL.out HGR.out).trans HG.out;have hx:=(blk_cell hg1 3).trans rfl;have hy:=blk_frozen hg1 3;have HG1:=Aside0.mk hg1;have HS1:=Aside0.mk hS1;have HR1:=Aside0.mk hR1;clear hg1 hS1 hR1 hc0 hf0))
 go_end0
 refine ⟨⟨_,rfl⟩,?_,?_,blk_put HG1.out 3 _ rfl⟩
 ·exact (HS1.out.mono (fun k hk=>.inl hk)).trans (Stays.setCell (C:=fun k=>k = r ∨ k = g) (p:=⟨g,3,none⟩) (.inr rfl) _)
 ·exact Rd.far (p:=⟨g,3,none⟩) HR1.out HGR.out (fun k hk=>hk.elim (fun h=>(HOK.out k h).2) (fun h=>by have:=HGL.out;show k ≠ g;omega)) _

def metaF (b : List Int) (bad : Bool) : Option (MetaS × List Int × Bool) :=
 (nums_Take.f b).bind fun t=>(nums_Take.f t.2.1).bind fun u=>(nums_TakeText.f u.2.1 64).bind fun v=>(nums_TakeText.f v.2.1 64).bind fun x=>some (⟨t.1,u.1,v.1,x.1⟩,x.2.1,((((bad || !t.2.2) || !u.2.2) || !v.2.2) || !x.2.2))
def addL : Nat → Int → List MetaS → List Int → Bool → Option (List MetaS × List Int × Bool)
 | 0,_,out,b,bad=>some (out,b,bad)
 | m + 1,n,out,b,bad=>if 0 < n then (if bad = true then some (out,b,bad) else (metaF b bad).bind fun t=>addL m (IntKind.u64.wrap (n - 1)) (out ++ [t.1]) t.2.1 t.2.2) else some (out,b,bad)
def addT (b : List Int) (bad : Bool) : Option (List MetaS × List Int × Bool):=(nums_Take.f b).bind fun t=>addL 65 t.1 [] t.2.1 (bad || !t.2.2)

/-- A round's state: the reader, the row of notes, the note that is made, the edit's box. -/
structure Acc (base r g gm : Nat) (ok : Nat → Prop) (v : Value) (out : List MetaS) (mc : Array Value) (a1 a2 a3 : Int) (b : List Int) (bad : Bool) (W : World) : Prop where
 rd : Rd r (fun k=>(ok k ∨ base ≤ k) ∧ k ≠ gm ∧ some k ≠ v.ownBlock) W b bad
 row : Kd.R k58 58 W base (fun k=>k ≠ r ∧ k ≠ g ∧ k ≠ gm) v out
 mb : W.heap[gm]? = some (.cells mc 58)
 bx : W.heap[g]? = some (eBx v a1 a2 a3)
 hok : ∀ k,ok k → k ≠ r ∧ k ≠ g
 lt : r < base ∧ g < base ∧ base ≤ gm ∧ g ≠ r
section
variable {base r g gm : Nat} {ok : Nat → Prop} {v : Value} {out : List MetaS} {mc mc' : Array Value} {a1 a2 a3 : Int} {b b' : List Int} {bad bad' : Bool} {W W' : World}
theorem Acc.ne (h : Acc base r g gm ok v out mc a1 a2 a3 b bad W) : ∀ k,((ok k ∨ base ≤ k) ∧ k ≠ gm ∧ some k ≠ v.ownBlock) → k ≠ r:=fun k hk=>hk.1.elim (fun h1=>(h.hok k h1).1) (fun h1=>by have:=h.lt.1;omega)
theorem Acc.after (h : Acc base r g gm ok v out mc a1 a2 a3 b bad W) (hS : Stays (· = r) W W') (hR : Rd r (orNew (fun k=>(ok k ∨ base ≤ k) ∧ k ≠ gm ∧ some k ≠ v.ownBlock) W) W' b' bad') : Acc base r g gm ok v out mc a1 a2 a3 b' bad' W':=by
 have hgm:=blk_lt h.mb
 have hv:=Kd.R_lt h.row
 refine ⟨hR.mono (fun k hk=>hk.elim (fun h=>h) (fun h1=>⟨.inr (by have:=h.lt.2.2.1;omega),by omega,fun e=>by have:=hv k e.symm;omega⟩)),Kd.R_step h.row (fun k hk hlt=>hS.block k hlt hk.1),(hS.block gm hgm (by have:=h.lt;omega)).trans h.mb,(hS.block g (blk_lt h.bx) h.lt.2.2.2).trans h.bx,h.hok,h.lt⟩
theorem Acc.set (h : Acc base r g gm ok v out mc a1 a2 a3 b bad W) (j : Nat) (u : Value) (e : mc.setIfInBounds j u = mc') : Acc base r g gm ok v out mc' a1 a2 a3 b bad (W.setCell ⟨gm,j,none⟩ u) :=
 ⟨h.rd.far (p:=⟨gm,j,none⟩) (by show gm ≠ r;have:=h.lt;omega) (fun k hk=>hk.2.1) u,Kd.R_far (p:=⟨gm,j,none⟩) h.row (fun k hk=>hk.2.2) u,blk_put h.mb j u e,blk_far (p:=⟨gm,j,none⟩) h.bx (by show g ≠ gm;have:=h.lt;omega) u,h.hok,h.lt⟩
theorem Acc.drew (h : Acc base r g gm ok v out mc a1 a2 a3 b bad W) : Acc base r g gm ok v out mc a1 a2 a3 b bad W.drew :=
 ⟨by obtain ⟨A,c,h1,h2,h3⟩:=h.rd;exact ⟨A,c,h1,h2,Kd.F_below h3 (below_drew1 (Below.refl _ _))⟩,Kd.R_drew h.row,h.mb,h.bx,h.hok,h.lt⟩
end
theorem Rd.after {r : Nat} {ok : Nat → Prop} {W W1 : World} {l : List Int} {bad : Bool} {v v1 : Value} (h : Rd r (fun k=>ok k ∧ some k ≠ v.ownBlock) W l bad) (hg : W.grownBy W1 v.ownBlock) (hr : some r ≠ v.ownBlock) (hat : v1.ownBlock = v.ownBlock ∨ ∃ b,v1.ownBlock = some b ∧ W.heap.size ≤ b) : Rd r (fun k=>ok k ∧ some k ≠ v1.ownBlock) W1 l bad:=by
 obtain ⟨A,c,h1,h2,h3⟩:=h
 exact ⟨A,c,blk_grown h1 hg hr,h2,Kd.F_after h3 hg hat⟩
/-- What a loop's round begins with. -/
structure Beg (base r g : Nat) (ok : Nat → Prop) (v : Value) (out : List MetaS) (a1 a2 a3 : Int) (b : List Int) (bad : Bool) (W : World) : Prop where
 rd : Rd r (fun k=>(ok k ∨ base ≤ k) ∧ some k ≠ v.ownBlock) W b bad
 row : Kd.R k58 58 W base (fun _=>True) v out
 bx : W.heap[g]? = some (eBx v a1 a2 a3)
 hok : ∀ k,ok k → k ≠ r ∧ k ≠ g
 lt : r < base ∧ g < base ∧ base ≤ W.heap.size ∧ g ≠ r
section
variable {base r g : Nat} {ok : Nat → Prop} {v : Value} {out : List MetaS} {a1 a2 a3 : Int} {b b' : List Int} {bad bad' : Bool} {W W' : World}
theorem Beg.ne (h : Beg base r g ok v out a1 a2 a3 b bad W) : ∀ k,((ok k ∨ base ≤ k) ∧ some k ≠ v.ownBlock) → k ≠ r:=fun k hk=>hk.1.elim (fun h1=>(h.hok k h1).1) (fun h1=>by have:=h.lt.1;omega)
theorem Beg.start (h : Beg base r g ok v out a1 a2 a3 b bad W) (hS : Stays (· = r) W W') (hR : Rd r (orNew (fun k=>(ok k ∨ base ≤ k) ∧ some k ≠ v.ownBlock) W) W' b' bad') (mc : Array Value) : Acc base r g W'.heap.size ok v out mc a1 a2 a3 b' bad' (W'.alloc (.cells mc 58)):=by
 have hv:=Kd.R_lt h.row
 have hB : Below W'.heap.size W' (W'.alloc (.cells mc 58)):=below_alloc (Below.refl _ _) _
 have hsz:=hS.size
 have hlt:=h.lt
 have h1:=Kd.R_step (w1:=W') (Kd.R_mono (ok':=fun k=>k ≠ r ∧ k ≠ g) (Kd.R_bound h.row) (fun k hk=>⟨by have:=hk.2.1;omega,by have:=hk.2.1;omega⟩)) (fun k hk hl=>hS.block k hl hk.1)
 refine ⟨(hR.keep hB).mono (fun k hk=>?_),Kd.R_mono (Kd.R_alloc (Kd.R_bound h1) _) (fun k hk=>⟨hk.1.1,hk.1.2,by have:=hk.2.2.1;omega⟩),World.alloc_heap_new W' _,(hB.block g (by have:=blk_lt h.bx;omega)).trans ((hS.block g (blk_lt h.bx) hlt.2.2.2).trans h.bx),h.hok,⟨hlt.1,hlt.2.1,by omega,hlt.2.2.2⟩⟩
 rcases hk.1 with h2|h2
 ·exact ⟨h2.1,by have:=hk.2;omega,h2.2⟩
 ·exact ⟨.inr (by omega),by have:=hk.2;omega,fun e=>by have:=hv k e.symm;omega⟩
end
theorem stays_at {C : Nat → Prop} {w W : World} {gm : Nat} (h : Stays C w W) (hg : w.heap.size ≤ gm) (j : Nat) (u : Value) : Stays C w (W.setCell ⟨gm,j,none⟩ u) :=
 h.trans' (Stays.setCell (C:=(· = gm)) (p:=⟨gm,j,none⟩) rfl u) (fun i hi e=>by omega)
def bxLen (g : Nat) (w : World) : Nat:=match w.cell? ⟨g,0,none⟩ with|some (.slice _ n _)=>n|_=>0
theorem bxLen_eq {g : Nat} {w : World} {A : Option Addr} {n c : Nat} {a1 a2 a3 : Int} (h : w.heap[g]? = some (eBx (.slice A n c) a1 a2 a3)) : bxLen g w = n:=by
 have h1 : w.cell? ⟨g,0,none⟩ = some (.slice A n c):=(blk_cell h 0).trans rfl
 unfold bxLen
 rw [h1]

set_option maxRecDepth 100000 in
set_option maxHeartbeats 8000000 in
theorem takeA_calls (g r : Nat) (a1 a2 a3 : Int) (l : List Int) (bad : Bool) (ok : Nat → Prop) (hok : ∀ k,ok k → k ≠ r ∧ k ≠ g) (hgr : g ≠ r) (w : World) (h : Rd r ok w l bad) (hg : w.heap[g]? = some (eBx (.slice none 0 0) a1 a2 a3)) (z1 : List MetaS) (z2 : List Int) (z3 : Bool) (hz : addT l bad = some (z1,z2,z3)) :
  Calls Try.prog 67 #[.pointer (some ⟨r,0,none⟩),.pointer (some ⟨g,0,none⟩)] w fun e w'=>∃ v,(∃ u,e = .returned u) ∧ Stays (fun k=>k = r ∨ k = g) w w' ∧ Beg w.heap.size r g ok v z1 a1 a2 a3 z2 z3 w':=by
 unfold addT at hz
 obtain ⟨⟨t1,t2,t3⟩,ht,hz⟩:=Option.bind_eq_some_iff.1 hz
 have HCL:=Aside0.mk (num_calls r l bad ok (fun k hk=>(hok k hk).1) w h t1 t2 t3 ht)
 have HZ:=Aside0.mk hz
 have HG:=Aside0.mk hg
 have HOK:=Aside0.mk hok
 have HGR:=Aside0.mk hgr
 have HRL:=Aside0.mk h.lt
 have hu:=Try.underlying25
 have hum:=Try.underlying58
 have hur:=Try.underlying69
 clear hz hg hok hgr h ht
 go_enter Try.func67,Try.ntmps67
 go_wp2_with (go_at_call 68;refine HCL.out.mono ?_;rintro e w1 ⟨rfl,hS1,hR1⟩;have HS1:=Aside0.mk hS1;have HR1:=Aside0.mk hR1;clear hS1 hR1)
 have hbeg : Beg w.heap.size r g ok (.slice none 0 0) [] a1 a2 a3 t2 (bad || !t3) w1:=⟨HR1.out.mono (fun k hk=>⟨hk,by simp [Value.ownBlock]⟩),Kd.R_nil _ _ _ _ _,(HS1.out.block g (blk_lt HG.out) HGR.out).trans HG.out,HOK.out,⟨HRL.out,blk_lt HG.out,HS1.out.size,HGR.out⟩⟩
 have HBEG:=Aside0.mk hbeg
 have HSW:=Aside0.mk (HS1.out.mono (C':=fun k=>k = r ∨ k = g) (fun k hk=>.inl hk))
 clear hbeg HCL HR1 HS1
 go_loopw [4] (fun v4 wr=>∃ (n : Int) (out : List MetaS) (b : List Int) (bd : Bool) (A : Option Addr) (c : Nat),v4 = .int .u64 n ∧ Aside0 (out.length ≤ 65 ∧ addL (65 - out.length) n out b bd = some (z1,z2,z3)) ∧ Aside0 (Beg w.heap.size r g ok (.slice A out.length c) out a1 a2 a3 b bd wr) ∧ Aside0 (Stays (fun k=>k = r ∨ k = g) w wr)) (fun _ wr=>66 - bxLen g wr)
 case atStart=>exact ⟨t1,[],t2,_,none,0,rfl,⟨by simp,HZ.out⟩,HBEG,HSW⟩
 case round =>
  obtain ⟨n,out,b,bd,A,c,rfl,HP,HBG,HST⟩:=hrel
  clear HBEG HSW HZ
  obtain ⟨A5,c5,hb5,hl5,hF5⟩:=HBG.out.rd
  have hc1 : wr.cell? ⟨r,1,none⟩ = some (.bool bd):=(blk_cell hb5 1).trans rfl
  have hx0 : wr.cell? ⟨g,0,none⟩ = some (.slice A out.length c):=(blk_cell HBG.out.bx 0).trans rfl
  clear hb5 hl5 hF5
  by_cases hn : 0 < n
  ·have hn1 : decide (0 < n) = true:=decide_eq_true hn
   cases bd with
   | true =>
    have h1:=HP.out.2
    have h2 : some (out,b,true) = some (z1,z2,z3):=by
     rw [← h1]
     generalize 65 - out.length = m
     cases m with
     | zero=>rfl
     | succ m=>rw [addL,if_pos hn,if_pos rfl]
    simp only [Option.some.injEq,Prod.mk.injEq] at h2
    obtain ⟨rfl,rfl,rfl⟩:=h2
    clear h1 hn
    go_wp2
    go_end0
    exact ⟨_,⟨_,rfl⟩,HST.out,HBG.out⟩
   | false =>
    by_cases hl : out.length ≤ 64
    ·have hl1 : decide ((out.length : Int) ≤ 64) = true:=decide_eq_true (by omega)
     have hl2 : decide (out.length ≤ 64) = true:=decide_eq_true hl
     have h1:=HP.out.2
     rw [show 65 - out.length = (64 - out.length) + 1 from by omega,addL,if_pos hn,if_neg (by decide)] at h1
     obtain ⟨⟨o,b1,bd1⟩,ho,h1⟩:=Option.bind_eq_some_iff.1 h1
     unfold metaF at ho
     obtain ⟨⟨s1,s2,s3⟩,hs,ho⟩:=Option.bind_eq_some_iff.1 ho
     obtain ⟨⟨p1,p2,p3⟩,hp,ho⟩:=Option.bind_eq_some_iff.1 ho
     obtain ⟨⟨q1,q2,q3⟩,hq,ho⟩:=Option.bind_eq_some_iff.1 ho
     obtain ⟨⟨x1,x2,x3⟩,hx,ho⟩:=Option.bind_eq_some_iff.1 ho
     simp only [Option.some.injEq,Prod.mk.injEq] at ho
     obtain ⟨rfl,rfl,rfl⟩:=ho
     have H1:=Aside0.mk h1
     have HS:=Aside0.mk hs
     have HPP:=Aside0.mk hp
     have HQ:=Aside0.mk hq
     have HX:=Aside0.mk hx
     have HL:=Aside0.mk hl
     clear h1 hs hp hq hx hn HP hl
     go_wp2_with (first
      | (go_at_call 68;(with_reducible refine (num_calls r b false _ HBG.out.ne wr HBG.out.rd s1 s2 s3 HS.out).mono ?_);rintro e w2 ⟨rfl,hS2,hR2⟩;have HA2:=Aside0.mk (HBG.out.start hS2 hR2 #[.int .u64 s1,.int .u64 0,.string ⟨#[]⟩,.string ⟨#[]⟩]);have HSS2:=Aside0.mk (HST.out.trans ((hS2.mono (C':=fun k=>k = r ∨ k = g) (fun k hk=>.inl hk)).trans (Stays.alloc _ _ (.cells #[.int .u64 s1,.int .u64 0,.string ⟨#[]⟩,.string ⟨#[]⟩] 58))));clear hS2 hR2 hc1 hx0)
      | (go_at_call 68;(with_reducible refine (num_calls r s2 (false || !s3) _ HA2.out.ne _ HA2.out.rd p1 p2 p3 HPP.out).mono ?_);rintro e w3 ⟨rfl,hS3,hR3⟩;have hA3:=HA2.out.after hS3 hR3;have hx1 : w3.cell? ⟨w2.heap.size,1,none⟩ = some (.int .u64 0):=(blk_cell hA3.mb 1).trans rfl;have hf1:=blk_frozen hA3.mb 1;have HA3:=Aside0.mk (hA3.set (mc':=#[.int .u64 s1,.int .u64 p1,.string ⟨#[]⟩,.string ⟨#[]⟩]) 1 (.int .u64 p1) rfl);have HSS3:=Aside0.mk (HSS2.out.trans (hS3.mono (C':=fun k=>k = r ∨ k = g) (fun k hk=>.inl hk)));clear hS3 hR3 hA3)
      | (go_at_call 69;(with_reducible refine (text_calls r p2 ((false || !s3) || !p3) _ HA3.out.ne _ HA3.out.rd q1 q2 q3 HQ.out).mono ?_);rintro e w4 ⟨rfl,hS4,hR4⟩;have hA4:=HA3.out.after hS4 hR4;clear hx1 hf1;have hx2 : w4.cell? ⟨w2.heap.size,2,none⟩ = some (.string ⟨#[]⟩):=(blk_cell hA4.mb 2).trans rfl;have hf2:=blk_frozen hA4.mb 2;have HA4:=Aside0.mk (hA4.set (mc':=#[.int .u64 s1,.int .u64 p1,.string q1,.string ⟨#[]⟩]) 2 (.string q1) rfl);have HSS4:=Aside0.mk ((stays_at HSS3.out HA2.out.lt.2.2.1 1 (.int .u64 p1)).trans (hS4.mono (C':=fun k=>k = r ∨ k = g) (fun k hk=>.inl hk)));clear hS4 hR4 hA4)
      | (go_at_call 69;(with_reducible refine (text_calls r q2 (((false || !s3) || !p3) || !q3) _ HA4.out.ne _ HA4.out.rd x1 x2 x3 HX.out).mono ?_);rintro e w5 ⟨rfl,hS5,hR5⟩;have hA5:=HA4.out.after hS5 hR5;clear hx2 hf2;have hx3 : w5.cell? ⟨w2.heap.size,3,none⟩ = some (.string ⟨#[]⟩):=(blk_cell hA5.mb 3).trans rfl;have hf3:=blk_frozen hA5.mb 3;have HA5:=Aside0.mk (hA5.set (mc':=#[.int .u64 s1,.int .u64 p1,.string q1,.string x1]) 3 (.string x1) rfl);have HSS5:=Aside0.mk ((stays_at HSS4.out HA2.out.lt.2.2.1 2 (.string q1)).trans (hS5.mono (C':=fun k=>k = r ∨ k = g) (fun k hk=>.inl hk)));clear hS5 hR5 hA5))
     have hA6:=HA5.out
     obtain ⟨W6,hW6⟩ : ∃ W,W = w5.setCell ⟨w2.heap.size,3,none⟩ (.string x1):=⟨_,rfl⟩
     have hS6 : Stays (fun k=>k = r ∨ k = g) w W6:=by rw [hW6];exact stays_at HSS5.out HA2.out.lt.2.2.1 3 _
     rw [← hW6] at hA6
     rw [show w5.setCell ⟨w2.heap.size,3,none⟩ (.string x1) = W6 from hW6.symm]
     have hm0 : W6.cell? ⟨w2.heap.size,0,none⟩ = some (.int .u64 s1):=(blk_cell hA6.mb 0).trans rfl
     have hm1 : W6.cell? ⟨w2.heap.size,1,none⟩ = some (.int .u64 p1):=(blk_cell hA6.mb 1).trans rfl
     have hm2 : W6.cell? ⟨w2.heap.size,2,none⟩ = some (.string q1):=(blk_cell hA6.mb 2).trans rfl
     have hm3 : W6.cell? ⟨w2.heap.size,3,none⟩ = some (.string x1):=(blk_cell hA6.mb 3).trans rfl
     have hb6 : W6.cell? ⟨g,0,none⟩ = some (.slice A out.length c):=(blk_cell hA6.bx 0).trans rfl
     have hb6':=pw_cell_below (below_alloc (Below.refl _ _) (.cells #[.int .u64 s1,.int .u64 p1,.string q1,.string x1] 58)) hb6
     have hrow : Kd.R k58 58 W6 w.heap.size (fun k=>k ≠ r ∧ k ≠ g) (.slice A out.length c) out:=Kd.R_mono hA6.row (fun k hk=>⟨hk.1,hk.2.1⟩)
     have hrd : Rd r (fun k=>(ok k ∨ w.heap.size ≤ k) ∧ some k ≠ (Value.slice A out.length c).ownBlock) W6.drew x2 ((((false || !s3) || !p3) || !q3) || !x3):=hA6.drew.rd.mono (fun k hk=>⟨hk.1,hk.2.2⟩)
     have HROW:=Aside0.mk hrow
     have HRD:=Aside0.mk hrd
     have HA6:=Aside0.mk hA6
     have HS6:=Aside0.mk hS6
     have HLT6 : Aside0 (r < W6.heap.size ∧ g < W6.heap.size ∧ w.heap.size ≤ W6.heap.size):=⟨hA6.rd.lt,blk_lt hA6.bx,hS6.size⟩
     clear hA6 hW6 hS6 hrow hrd hx3 hf3 HA5 HA4 HA3 HSS5 HSS4 HSS3
     go_region_law ((try rw [show (W6.alloc (.cells #[.int .u64 s1,.int .u64 p1,.string q1,.string x1] 58)).drew = W6.drew.alloc (.cells #[.int .u64 s1,.int .u64 p1,.string q1,.string x1] 58) from rfl]);refine Kd.R_append_step k58 (w0:=W6) w.heap.size ?hw (.tmp 43) (.tmp 45) 22 58 (.agg #[.int .u64 0,.int .u64 0,.string ⟨#[]⟩,.string ⟨#[]⟩]) 48 ?ho Try.underlying22 info58 rfl (by decide) (by decide) (.slice A out.length c) out (⟨s1,p1,q1,x1⟩ : MetaS) [.int .u64 s1,.int .u64 p1,.string q1,.string x1] (fun k=>k ≠ r ∧ k ≠ g) (fun _=>False) ?hs ?hx (k58_mkM _ _ _ (⟨s1,p1,q1,x1⟩ : MetaS)) (fun _ hk=>hk.elim) (fun k hk=>⟨by have h9:=HLT6.out.1;have h8 : W6.heap.size ≤ k:=hk;omega,by have h9:=HLT6.out.2.1;have h8 : W6.heap.size ≤ k:=hk;omega⟩) ?rO ?rB ?rS (by have:=HL.out;omega) ?_;(case hw=>rfl);(case ho=>rfl);(case hs=>rfl);(case hx=>rfl);(case rO=>exact Kd.R_drew HROW.out);(case rB=>exact below_drew1 (Below.refl _ _));(case rS=>exact HLT6.out.2.2);intro v7 w7 ho7 hb7 hg7 hat7;obtain ⟨A7,c7,e7⟩:=Kd.R_slice ho7;generalize hN : (out ++ [(⟨s1,p1,q1,x1⟩ : MetaS)]).length = n7 at e7;subst e7;have HO7:=Aside0.mk ho7;have HN:=Aside0.mk hN;have HRD7:=Aside0.mk (Rd.after HRD.out hg7 (fun e=>(HROW.out.1 _ e.symm).1 rfl) hat7);have hbx7:=blk_grown (HA6.out.drew).bx hg7 (fun e=>(HROW.out.1 _ e.symm).2 rfl);have HBX7:=Aside0.mk hbx7;have hb77 : w7.cell? ⟨g,0,none⟩ = some (.slice A out.length c):=(blk_cell hbx7 0).trans rfl;have hfb7:=blk_frozen hbx7 0;have HS7:=Aside0.mk (HS6.out.trans' ((Stays.drew (fun k=>(Value.slice A out.length c).ownBlock = some k) W6).trans (Stays.of_grownBy hg7 (fun k e=>e))) (fun i hi e=>by have:=Kd.R_base HROW.out i e;omega));clear ho7 hb7 hg7 hat7 hN hbx7)
     all_goals
      go_wp2
      have hN:=HN.out
      subst hN
      have hst : Stays (fun k=>k = r ∨ k = g) w (w7.setCell ⟨g,0,none⟩ (.slice A7 (out ++ [(⟨s1,p1,q1,x1⟩ : MetaS)]).length c7)):=HS7.out.trans (Stays.setCell (C:=fun k=>k = r ∨ k = g) (p:=⟨g,0,none⟩) (.inr rfl) _)
      have hbg : Beg w.heap.size r g ok (.slice A7 (out ++ [(⟨s1,p1,q1,x1⟩ : MetaS)]).length c7) (out ++ [(⟨s1,p1,q1,x1⟩ : MetaS)]) a1 a2 a3 x2 ((((false || !s3) || !p3) || !q3) || !x3) (w7.setCell ⟨g,0,none⟩ (.slice A7 (out ++ [(⟨s1,p1,q1,x1⟩ : MetaS)]).length c7)) :=
       ⟨Rd.far (p:=⟨g,0,none⟩) HRD7.out HGR.out (fun k hk=>hk.1.elim (fun h=>(HOK.out k h).2) (fun h=>by have:=blk_lt HG.out;show k ≠ g;omega)) _,Kd.R_mono (Kd.R_far (p:=⟨g,0,none⟩) HO7.out (fun k hk=>hk.2) _) (fun _ _=>trivial),blk_put HBX7.out 0 _ rfl,HOK.out,⟨HRL.out,blk_lt HG.out,hst.size,HGR.out⟩⟩
      refine ⟨⟨_,out ++ [(⟨s1,p1,q1,x1⟩ : MetaS)],x2,_,A7,c7,rfl,⟨by rw [List.length_append];have:=HL.out;simp;omega,?_⟩,⟨hbg⟩,⟨hst⟩⟩,?_⟩
      ·rw [List.length_append,show 65 - (out.length + [(⟨s1,p1,q1,x1⟩ : MetaS)].length) = 64 - out.length from by simp]
       exact H1.out
      ·rw [bxLen_eq hbg.bx,bxLen_eq HBG.out.bx,List.length_append]
       have:=HL.out
       simp
       omega
    ·have hl1 : decide ((out.length : Int) ≤ 64) = false:=decide_eq_false (by omega)
     have hl2 : decide (out.length ≤ 64) = false:=decide_eq_false hl
     have h1:=HP.out.2
     have hlen:=HP.out.1
     rw [show 65 - out.length = 0 from by omega,addL] at h1
     simp only [Option.some.injEq,Prod.mk.injEq] at h1
     obtain ⟨rfl,rfl,rfl⟩:=h1
     clear hlen hl hn
     go_wp2
     go_end0
     exact ⟨_,⟨_,rfl⟩,HST.out,HBG.out⟩
  ·have hn1 : decide (0 < n) = false:=decide_eq_false hn
   have h1:=HP.out.2
   have h2 : some (out,b,bd) = some (z1,z2,z3):=by
    rw [← h1]
    generalize 65 - out.length = m
    cases m with
    | zero=>rfl
    | succ m=>rw [addL,if_neg hn]
   simp only [Option.some.injEq,Prod.mk.injEq] at h2
   obtain ⟨rfl,rfl,rfl⟩:=h2
   clear h1 hn
   go_wp2
   go_end0
   exact ⟨_,⟨_,rfl⟩,HST.out,HBG.out⟩
end Go.Proofs.YtcagajobpnpicaaG

end

section
set_option linter.unusedVariables false
set_option linter.unusedSimpArgs false
namespace Go.Proofs.YtcagajobpnpicaaG
open Go Go.RowKit Go.Proofs.YtcagajobpnpicaaR Go.Proofs.Ytcagajobpnpicaa.P Go.Proofs.YtcagajobpnpicaaW.PrintWords
attribute [local go_sem] Oper.semAt_some

theorem vint_len9 {x : Nat} (hx : x ≤ 64) : (vint x).length = 1:=by
 rw [vint,dif_neg (by omega)]
 rfl
def FitM (m : MetaS) : Prop:=WfM m ∧ m.f2.size ≤ 64 ∧ m.f3.size ≤ 64
theorem bytesOf_len (s : ByteArray) : (bytesOf s).length = s.size:=by
 unfold bytesOf
 rw [List.length_map]
 rfl
theorem noteF_len {m : MetaS} (h : FitM m) : (noteF m).length ≤ 150:=by
 obtain ⟨⟨h1,h2⟩,h3,h4⟩:=h
 have a:=vint_len10 (x:=m.f0.toNat) (by have:=h1.1;have:=h1.2;omega)
 have b:=vint_len10 (x:=m.f1.toNat) (by have:=h2.1;have:=h2.2;omega)
 have c:=vint_len9 h3
 have d:=vint_len9 h4
 unfold noteF
 simp only [List.length_append,bytesOf_len,c,d]
 omega
theorem notesF_len : ∀ (l : List MetaS),(∀ m ∈ l,FitM m) → (notesF l).length ≤ 150 * l.length
 | [],_=>by simp [notesF]
 | m :: r,h=>by
  have h1:=noteF_len (h m (List.mem_cons_self ..))
  have h2:=notesF_len r (fun x hx=>h x (List.mem_cons_of_mem _ hx))
  rw [notesF,List.length_append,List.length_cons]
  omega
theorem notesF_append : ∀ (a b : List MetaS),notesF (a ++ b) = notesF a ++ notesF b
 | [],b=>rfl
 | m :: r,b=>by rw [List.cons_append,notesF,notesF,notesF_append r b,List.append_assoc]
theorem put_f {b : List Int} {x : Int} (h : U64 x) (hb : b.length ≤ 2000000) : nums_Put.f b x = some (b ++ vint x.toNat):=by
 unfold nums_Put.f
 rw [if_pos ⟨h.1,h.2,by omega⟩]
theorem putText_f {b : List Int} {s : ByteArray} (h : s.size ≤ 64) (hb : b.length ≤ 2000000) : nums_PutText.f b s = some (b ++ (vint s.size ++ bytesOf s)):=by
 unfold nums_PutText.f
 have e : IntKind.u64.wrap ((s.size : Nat) : Int) = (s.size : Int):=by show ((s.size : Int) % 18446744073709551616) = _;omega
 rw [e,put_f ⟨by omega,by omega⟩ hb,Option.bind_some,if_pos,Int.toNat_natCast,List.append_assoc]
 have:=vint_len9 h
 rw [Int.toNat_natCast,List.length_append,this]
 omega

abbrev mCells (m : MetaS) : Obj:=.cells #[.int .u64 m.f0,.int .u64 m.f1,.string m.f2,.string m.f3] 58

set_option maxRecDepth 100000 in
set_option maxHeartbeats 4000000 in
theorem putA_calls (A : Option Addr) (c : Nat) (l : List MetaS) (a1 a2 a3 : Int) (B : Option Addr) (cb : Nat) (b : List Int) (w : World) (hr : Kd.C k58 w A l.length l) (hc : l.length ≤ c) (hb : Kd.C (Kd.int .u8) w B b.length b) (hcb : b.length ≤ cb) (hbl : b.length ≤ 1000000) (hl : l.length ≤ 64) (hf : ∀ m ∈ l,FitM m) :
  Calls Try.prog 64 #[.slice B b.length cb,aggE A l.length c a1 a2 a3] w fun e w'=>∃ v,e = .returned v ∧ Kd.R (Kd.int .u8) 5 w' w.heap.size (fun _=>True) v (b ++ (vint l.length ++ notesF l)) ∧ Below w.heap.size w w':=by
 have HR:=Aside0.mk hr
 have HF:=Aside0.mk hf
 have HL:=Aside0.mk hl
 have HBL:=Aside0.mk hbl
 have hu:=Try.underlying25
 have hum:=Try.underlying58
 have hb0:=World.alloc_heap_new w (.cells #[.slice A l.length c,.int .u64 a1,.int .u64 a2,.int .u64 a3] 25)
 have HB : Below w.heap.size w (w.alloc (.cells #[.slice A l.length c,.int .u64 a1,.int .u64 a2,.int .u64 a3] 25)):=below_alloc (Below.refl _ _) _
 have hcl:=nums_Put.calls B cb b (l.length : Int) _ _ (Kd.C_below hb HB) hcb (put_f (x:=(l.length : Int)) ⟨by omega,by omega⟩ (by omega))
 rw [Int.toNat_natCast] at hcl
 obtain ⟨b1,hb1⟩ : ∃ x,x = b ++ vint l.length:=⟨_,rfl⟩
 rw [← hb1] at hcl
 have HB1:=Aside0.mk hb1
 have HCL:=Aside0.mk hcl
 have HB':=Aside0.mk HB
 have HB0:=Aside0.mk hb0
 have hw : IntKind.u64.wrap (l.length : Int) = (l.length : Int):=by show ((l.length : Int) % 18446744073709551616) = _;omega
 clear hr hf hl hbl hcl HB hb hb0 hb1
 go_enter Try.func64,Try.ntmps64
 go_wp2_with (go_at_call 65;refine HCL.out.mono ?_;rintro e w1 ⟨v,rfl,hv,hd⟩;have HV:=Aside0.mk (Kd.R_lower hv HB'.out.size);have HD:=Aside0.mk (below_then HB'.out HB'.out.size hd);have hbx:=(hd.block _ (blk_lt HB0.out)).trans HB0.out;have hx0:=(blk_cell hbx 0).trans rfl;have hy0:=blk_frozen hbx 0;clear hv hd hbx)
 obtain ⟨W1,hW1⟩ : ∃ W,W = w1:=⟨_,rfl⟩
 obtain ⟨Av,cv,hvv,hlv,_⟩:=Kd.R_reads HV.out
 subst hvv
 have HLV:=Aside0.mk hlv
 clear hW1 hlv
 go_loopw [0,16] (fun v0 v16 wr=>∃ (k : Nat) (q : List Int) (Aq : Option Addr) (cq : Nat),k ≤ l.length ∧ v16 = .int .i64 k ∧ v0 = .slice Aq q.length cq ∧ Aside0 (q = b ++ (vint l.length ++ notesF (l.take k))) ∧ Aside0 (q.length ≤ cq) ∧ Aside0 (Kd.R (Kd.int .u8) 5 wr w.heap.size (fun _=>True) (.slice Aq q.length cq) q) ∧ Aside0 (Below w.heap.size w wr)) (fun _ v16 _=>l.length - (intOf v16).toNat)
 case atStart=>exact ⟨0,b1,Av,cv,Nat.zero_le _,rfl,rfl,⟨by rw [HB1.out];simp [notesF]⟩,HLV,HV,HD⟩
 case round =>
  obtain ⟨k,q,Aq,cq,hk,rfl,rfl,HQ,HLQ,HRQ,HBQ⟩:=hrel
  clear HV HD HLV
  by_cases hlt : k < l.length
  ·have hd1 : decide ((k : Int) < (l.length : Int)) = true:=decide_eq_true (by omega)
   obtain ⟨ad,e,h0,h1,h2,h3⟩:=at_T58 (Kd.C_below HR.out HBQ.out) (k : Int) (by omega) (by omega)
   subst e
   obtain ⟨m,hm⟩ : ∃ m,m = l[k]:=⟨_,rfl⟩
   have hrd : rd_T58 l (k : Int) = m:=by rw [hm];show l.getD ((k : Int)).toNat _ = _;rw [Int.toNat_natCast,List.getD_eq_getElem?_getD,List.getElem?_eq_getElem hlt];rfl
   rw [hrd] at h0 h1 h2 h3
   simp only [Int.toNat_natCast] at h0 h1 h2 h3
   have HM:=Aside0.mk hm
   clear hrd hm
   go_wp2_with fail
   obtain ⟨W2,hW2⟩ : ∃ W,W = wr.alloc (mCells m):=⟨_,rfl⟩
   rw [show wr.alloc (.cells #[.int .u64 m.f0,.int .u64 m.f1,.string m.f2,.string m.f3] 58) = W2 from hW2.symm]
   have hg : W2.heap[wr.heap.size]? = some (mCells m):=by rw [hW2];exact World.alloc_heap_new wr _
   have hB2 : Below w.heap.size w W2:=by rw [hW2];exact HBQ.out.alloc HBQ.out.size _
   have hR2 : Kd.R (Kd.int .u8) 5 W2 w.heap.size (fun _=>True) (.slice Aq q.length cq) q:=by rw [hW2];exact Kd.R_below HRQ.out (below_alloc (Below.refl _ _) _)
   have hmf : FitM m:=by rw [HM.out];exact HF.out _ (List.getElem_mem hlt)
   have hql : q.length ≤ 1010000:=by
    have h5:=notesF_len (l.take k) (fun x hx=>HF.out x (List.take_subset _ _ hx))
    have h6:=HBL.out
    have h7:=vint_len9 HL.out
    have h8 : (l.take k).length ≤ 64:=Nat.le_trans (by rw [List.length_take];omega) HL.out
    rw [HQ.out,List.length_append,List.length_append,h7]
    omega
   have HG:=Aside0.mk hg
   have HB2:=Aside0.mk (below_drew1 hB2)
   have HR2:=Aside0.mk (Kd.R_drew hR2)
   have HMF:=Aside0.mk hmf
   have HQL:=Aside0.mk hql
   have hgd : W2.drew.heap[wr.heap.size]? = some (mCells m):=hg
   have HGD:=Aside0.mk hgd
   have hc0 : W2.cell? ⟨wr.heap.size,0,none⟩ = some (.int .u64 m.f0):=(blk_cell hg 0).trans rfl
   have hc1 : W2.cell? ⟨wr.heap.size,1,none⟩ = some (.int .u64 m.f1):=(blk_cell hg 1).trans rfl
   have hc2 : W2.cell? ⟨wr.heap.size,2,none⟩ = some (.string m.f2):=(blk_cell hg 2).trans rfl
   have hc3 : W2.cell? ⟨wr.heap.size,3,none⟩ = some (.string m.f3):=(blk_cell hg 3).trans rfl
   clear hW2 hg hB2 hR2 hmf hql h0 h1 h2 h3 hgd HCL HB0 hx0
   obtain ⟨q1,hq1⟩ : ∃ x,x = q ++ vint m.f0.toNat:=⟨_,rfl⟩
   obtain ⟨q2,hq2⟩ : ∃ x,x = q1 ++ vint m.f1.toNat:=⟨_,rfl⟩
   obtain ⟨q3,hq3⟩ : ∃ x,x = q2 ++ (vint m.f2.size ++ bytesOf m.f2):=⟨_,rfl⟩
   obtain ⟨q4,hq4⟩ : ∃ x,x = q3 ++ (vint m.f3.size ++ bytesOf m.f3):=⟨_,rfl⟩
   have hl1 : q1.length ≤ 1010010:=by rw [hq1,List.length_append];have:=HQL.out;have:=vint_len10 (x:=m.f0.toNat) (by have:=HMF.out.1.1.1;have:=HMF.out.1.1.2;omega);omega
   have hl2 : q2.length ≤ 1010020:=by rw [hq2,List.length_append];have:=vint_len10 (x:=m.f1.toNat) (by have:=HMF.out.1.2.1;have:=HMF.out.1.2.2;omega);omega
   have hl3 : q3.length ≤ 1010200:=by rw [hq3,List.length_append,List.length_append,bytesOf_len,vint_len9 HMF.out.2.1];have:=HMF.out.2.1;omega
   have HP1 : Aside0 (nums_Put.f q m.f0 = some q1):=⟨by rw [hq1];exact put_f HMF.out.1.1 (by have:=HQL.out;omega)⟩
   have HP2 : Aside0 (nums_Put.f q1 m.f1 = some q2):=⟨by rw [hq2];exact put_f HMF.out.1.2 (by omega)⟩
   have HP3 : Aside0 (nums_PutText.f q2 m.f2 = some q3):=⟨by rw [hq3];exact putText_f HMF.out.2.1 (by omega)⟩
   have HP4 : Aside0 (nums_PutText.f q3 m.f3 = some q4):=⟨by rw [hq4];exact putText_f HMF.out.2.2 (by omega)⟩
   have HQ4 : Aside0 (q4 = q ++ noteF m):=⟨by rw [hq4,hq3,hq2,hq1,noteF];simp only [List.append_assoc]⟩
   clear hq1 hq2 hq3 hq4 hl1 hl2 hl3
   go_region_law (first
    | (go_simp;go_at_call 65;(with_reducible refine (nums_Put.calls Aq cq q m.f0 q1 _ (Kd.R_reads' HR2.out).2.2 HLQ.out HP1.out).mono ?_);rintro e w11 ⟨v1,rfl,hv,hd⟩;obtain ⟨A1,c1,hvv,hll,_⟩:=Kd.R_reads hv;subst hvv;have HRR1:=Aside0.mk hv;have HLL1:=Aside0.mk hll;have HBB1:=Aside0.mk (below_then HB2.out HB2.out.size hd);have HGG1:=Aside0.mk ((hd.block _ (blk_lt HGD.out)).trans HGD.out);clear hv hll hd hc0 hc1 hc2 hc3;have hc1:=(blk_cell HGG1.out 1).trans rfl;have hc2:=(blk_cell HGG1.out 2).trans rfl;have hc3:=(blk_cell HGG1.out 3).trans rfl)
    | (go_simp;go_at_call 65;(with_reducible refine (nums_Put.calls A1 c1 q1 m.f1 q2 _ (Kd.R_reads' HRR1.out).2.2 HLL1.out HP2.out).mono ?_);rintro e w12 ⟨v2,rfl,hv,hd⟩;obtain ⟨A2,c2,hvv,hll,_⟩:=Kd.R_reads hv;subst hvv;have HRR2:=Aside0.mk hv;have HLL2:=Aside0.mk hll;have HBB2:=Aside0.mk (below_then HBB1.out HBB1.out.size hd);have HGG2:=Aside0.mk ((hd.block _ (blk_lt HGG1.out)).trans HGG1.out);clear hv hll hd hc1 hc2 hc3;have hc2:=(blk_cell HGG2.out 2).trans rfl;have hc3:=(blk_cell HGG2.out 3).trans rfl)
    | (go_simp;go_at_call 66;(with_reducible refine (nums_PutText.calls A2 c2 q2 m.f2 q3 _ (Kd.R_reads' HRR2.out).2.2 HLL2.out HP3.out).mono ?_);rintro e w13 ⟨v3,rfl,hv,hd⟩;obtain ⟨A3,c3,hvv,hll,_⟩:=Kd.R_reads hv;subst hvv;have HRR3:=Aside0.mk hv;have HLL3:=Aside0.mk hll;have HBB3:=Aside0.mk (below_then HBB2.out HBB2.out.size hd);have HGG3:=Aside0.mk ((hd.block _ (blk_lt HGG2.out)).trans HGG2.out);clear hv hll hd hc2 hc3;have hc3:=(blk_cell HGG3.out 3).trans rfl)
    | (go_simp;go_at_call 66;(with_reducible refine (nums_PutText.calls A3 c3 q3 m.f3 q4 _ (Kd.R_reads' HRR3.out).2.2 HLL3.out HP4.out).mono ?_);rintro e w14 ⟨v4,rfl,hv,hd⟩;obtain ⟨A4,c4,hvv,hll,_⟩:=Kd.R_reads hv;subst hvv;have HRR4:=Aside0.mk hv;have HLL4:=Aside0.mk hll;have HBB4:=Aside0.mk (below_then HBB3.out HBB3.out.size hd);have HGG4:=Aside0.mk ((hd.block _ (blk_lt HGG3.out)).trans HGG3.out);clear hv hll hd hc3))
   all_goals
    have hk1 : wrap64 ((k : Int) + 1) = ((k + 1 : Nat) : Int):=by unfold wrap64;have:=HL.out;omega
    have HK1:=Aside0.mk hk1
    clear hk1
    go_wp2
    refine ⟨⟨k + 1,q4,A4,c4,by omega,by rw [HK1.out],rfl,⟨?_⟩,HLL4,⟨Kd.R_lower HRR4.out HBB3.out.size⟩,HBB4⟩,by show l.length - (intOf (.int .i64 (wrap64 ((k : Int) + 1)))).toNat < l.length - (intOf (.int .i64 (k : Int))).toNat;rw [HK1.out];show l.length - ((k + 1 : Nat) : Int).toNat < l.length - (k : Int).toNat;omega⟩
    rw [HQ4.out,HQ.out,List.take_succ_eq_append_getElem hlt,notesF_append,HM.out,notesF,notesF,List.append_nil]
    simp only [List.append_assoc]
  ·have hkl : k = l.length:=by omega
   subst hkl
   have hd1 : decide ((l.length : Int) < (l.length : Int)) = false:=decide_eq_false (by omega)
   have hq:=HQ.out
   rw [List.take_length] at hq
   go_wp2
   go_ret
   exact ⟨_,rfl,by rw [← hq];exact HRQ.out,HBQ.out⟩
end Go.Proofs.YtcagajobpnpicaaG

end

section
set_option linter.unusedVariables false
set_option linter.unusedSimpArgs false
namespace Go.Proofs.YtcagajobpnpicaaG
open Go Go.RowKit Go.Proofs.YtcagajobpnpicaaR Go.Proofs.YtcagajobpnpicaaL Go.Proofs.Ytcagajobpnpicaa.P Go.Proofs.YtcagajobpnpicaaW.PrintWords
attribute [local go_sem] Oper.semAt_some run_store_fn

theorem R_one (W : World) (base : Nat) (hb : base ≤ W.heap.size) (x : Int) : Kd.R (Kd.int .u8) 5 (W.alloc (.cells #[.int .u8 x] 5)) base (fun _=>True) (.slice (some ⟨W.heap.size,0,none⟩) 1 1) [x]:=by
 refine ⟨fun k hk=>trivial,[.int .u8 x],?_,⟨rfl,fun j p hj=>?_⟩⟩
 ·have h2:=World.ownsRow_lit (base:=base) (e:=5) (size:=(Kd.int .u8).sz) W #[.int .u8 x] 1 hb (by decide) rfl
  exact h2
 ·cases j with
  | zero =>
   simp only [List.getElem?_cons_zero,Option.some.injEq] at hj
   subst hj
   show [Value.int .u8 x] = _
   rfl
  | succ j=>simp at hj
/-- The head byte of a row of one's own is written. -/
theorem R_head {W : World} {base T g n cap : Nat} {h : Int} {r : List Int} (hR : Kd.R (Kd.int .u8) T W base (fun _=>True) (.slice (some ⟨g,0,none⟩) n cap) (h :: r)) :
  W.cell? ⟨g,0,none⟩ = some (.int .u8 h) ∧ W.frozen? ⟨g,0,none⟩ = false ∧ ∀ y : Int,Kd.R (Kd.int .u8) T (W.setCell ⟨g,0,none⟩ (.int .u8 y)) base (fun _=>True) (.slice (some ⟨g,0,none⟩) n cap) (y :: r) ∧ W.grownBy (W.setCell ⟨g,0,none⟩ (.int .u8 y)) (some g):=by
 obtain ⟨hn,_,_⟩:=Kd.R_reads' hR
 have hn' : 0 < n:=by rw [List.length_cons] at hn;omega
 obtain ⟨c,hcl,hM,hcc,hfr⟩:=Kd.R_elem hR 0 0 (Int.le_refl _) (by omega)
 have hM' : c = [.int .u8 h]:=hM
 subst hM'
 refine ⟨hcc 0 _ rfl,hfr 0,fun y=>?_⟩
 have h2:=Kd.R_seg hR 0 (Int.le_refl _) (by omega) (seg:=[.int .u8 y]) (j:=0) hcl hcc (by simp;exact Nat.le_refl _) (x':=y) (okp:=fun k=>True ∧ k ≠ g) (by show _ = _;rfl) (fun _ hk=>hk)
 exact h2
abbrev eBox (A : Option Addr) (n c : Nat) (a1 a2 a3 : Int) : Obj:=.cells #[.slice A n c,.int .u64 a1,.int .u64 a2,.int .u64 a3] 25
def outF (l : List MetaS) (a b c : Int) : Nat → List Int
 | 0=>[0]
 | 1=>bitF l.length 1 :: addF l
 | 2=>(bitF l.length 1 + bitF a 2) :: (addF l ++ numF a)
 | 3=>(bitF l.length 1 + bitF a 2 + bitF b 4) :: (addF l ++ (numF a ++ numF b))
 | _=>formE l a b c
theorem bitF_nn (x k : Int) (hk : 0 ≤ k) : 0 ≤ bitF x k ∧ bitF x k ≤ k:=by unfold bitF;split <;> omega
theorem or_fin1 : ∀ h : Fin 1,bits .or .u8 (h.val : Int) 1 = (h.val : Int) + 1:=by decide +kernel
theorem or_fin2 : ∀ h : Fin 2,bits .or .u8 (h.val : Int) 2 = (h.val : Int) + 2:=by decide +kernel
theorem or_fin4 : ∀ h : Fin 4,bits .or .u8 (h.val : Int) 4 = (h.val : Int) + 4:=by decide +kernel
theorem or_fin8 : ∀ h : Fin 8,bits .or .u8 (h.val : Int) 8 = (h.val : Int) + 8:=by decide +kernel
theorem bitF_some {x k : Int} (h : 0 < x) : bitF x k = k:=if_pos h
theorem bitF_none {x k : Int} (h : ¬ 0 < x) : bitF x k = 0:=if_neg h
theorem numF_some {x : Int} (h : 0 < x) : numF x = vint x.toNat:=if_pos h
theorem numF_none {x : Int} (h : ¬ 0 < x) : numF x = []:=if_neg h
theorem numF_len {x : Int} (h : U64 x) : (numF x).length ≤ 10:=by
 unfold numF
 split
 ·exact vint_len10 (by have:=h.1;have:=h.2;omega)
 ·simp
theorem addF_len {l : List MetaS} (hl : l.length ≤ 64) (h : ∀ m ∈ l,FitM m) : (addF l).length ≤ 9700:=by
 unfold addF
 split
 ·rw [List.length_append,vint_len9 hl]
  have:=notesF_len l h
  omega
 ·simp
theorem notesB_fit : ∀ (l : List MetaS) (p : Option Int),notesB p l = true → (∀ m ∈ l,WfM m) → ∀ m ∈ l,FitM m
 | [],_,_,_=>fun m hm=>by simp at hm
 | x :: r,p,h,hw=>fun m hm=>by
  rw [notesB_cons] at h
  simp only [Bool.and_eq_true] at h
  rcases List.mem_cons.1 hm with rfl|hm
  ·have h1:=h.1.1
   unfold noteB at h1
   simp only [Bool.and_eq_true,decide_eq_true_eq] at h1
   exact ⟨hw _ (List.mem_cons_self ..),by omega,by omega⟩
  ·exact notesB_fit r _ h.2 (fun y hy=>hw y (List.mem_cons_of_mem _ hy)) m hm
theorem right_fit {l : List MetaS} {a b c : Int} (h : rightB l a b c = true) (hw : WfE l a b c) : l.length ≤ 64 ∧ ∀ m ∈ l,FitM m:=by
 unfold rightB at h
 simp only [Bool.and_eq_true,decide_eq_true_eq] at h
 exact ⟨h.2.1.1,notesB_fit l none h.1 hw.1⟩
theorem outF_len {l : List MetaS} {a b c : Int} (hl : l.length ≤ 64) (h : ∀ m ∈ l,FitM m) (hw : WfE l a b c) (k : Nat) : (outF l a b c k).length ≤ 10000:=by
 have h1:=addF_len hl h
 have h2:=numF_len hw.2.1
 have h3:=numF_len hw.2.2.1
 have h4:=numF_len hw.2.2.2
 unfold outF formE bodyF
 split <;> simp only [List.length_cons,List.length_append,List.length_nil] <;> omega

set_option maxRecDepth 100000 in
set_option maxHeartbeats 8000000 in
theorem bytes_yes (A : Option Addr) (cp : Nat) (l : List MetaS) (a b c : Int) (w : World) (hr : Kd.C k58 w A l.length l) (hc : l.length ≤ cp) (hw : WfE l a b c) (hy : rightB l a b c = true) :
  Calls Try.prog 11 #[aggE A l.length cp a b c] w fun e w'=>∃ v,e = .returned (.tuple #[v,.int .i64 0]) ∧ Kd.R (Kd.int .u8) 5 w' w.heap.size (fun _=>True) v (formE l a b c) ∧ Below w.heap.size w w':=by
 have hfit:=right_fit hy hw
 have HR:=Aside0.mk hr
 have HC:=Aside0.mk hc
 have HW:=Aside0.mk hw
 have HF:=Aside0.mk hfit
 have hu:=Try.underlying25
 have hup:=Try.underlying64
 have hb0:=World.alloc_heap_new w (eBox A l.length cp a b c)
 have HB : Below w.heap.size w (w.alloc (eBox A l.length cp a b c)):=below_alloc (Below.refl _ _) _
 have hcl:=right_calls A cp l a b c _ (Kd.C_below hr HB) hc hw
 rw [hy] at hcl
 have HCL:=Aside0.mk hcl
 have HB':=Aside0.mk HB
 have HB0:=Aside0.mk hb0
 clear hr hc hw hfit hcl HB hy
 go_enter Try.func11,Try.ntmps11
 go_wp2_with (first|(go_at_call 17;refine HCL.out.mono ?_;rintro e w1 ⟨rfl,hd⟩;have HB1:=Aside0.mk (below_then HB'.out HB'.out.size hd);have HX1:=Aside0.mk ((hd.block _ (blk_lt HB0.out)).trans HB0.out);clear hd hb0)|(go_at_call 32;refine (parts_calls _).mono ?_;rintro e w2 ⟨g,m1,m2,m3,rfl,hP,hge,hd⟩;have HP:=Aside0.mk hP;have HO:=Aside0.mk (Kd.R_below (R_one w1 w.heap.size HB1.out.size 0) hd);have HX2:=Aside0.mk (((hd.block _ (Nat.lt_of_lt_of_le (blk_lt HX1.out) (by simp))).trans ((Below.heap_alloc _ _ _ (blk_lt HX1.out)).trans HX1.out)));have HB2:=Aside0.mk (below_then (below_alloc HB1.out _) (Nat.le_trans HB1.out.size (by simp)) hd);clear hP hge hd))
 have HSZ : Aside0 (w.heap.size < w2.heap.size):=⟨blk_lt HX2.out⟩
 clear HB1 HX1 HCL
 obtain ⟨W1,hW1⟩ : ∃ x,x = w1.heap.size:=⟨_,rfl⟩
 rw [← hW1] at HO ⊢
 clear hW1
 go_loopw [4,13] (fun v4 v13 wr=>∃ (k : Nat) (q : List Int) (Aq : Option Addr) (cq : Nat),k ≤ 4 ∧ v13 = .int .i64 k ∧ v4 = .slice Aq q.length cq ∧ Aside0 (q = outF l a b c k) ∧ Aside0 (q.length ≤ cq) ∧ Aside0 (Kd.R (Kd.int .u8) 5 wr w.heap.size (fun _=>True) (.slice Aq q.length cq) q) ∧ Aside0 (Parts g m1 m2 m3 wr) ∧ Aside0 (wr.heap[w.heap.size]? = some (eBox A l.length cp a b c)) ∧ Aside0 (Below w.heap.size w wr)) (fun _ v13 _=>4 - (intOf v13).toNat)
 case atStart=>exact ⟨0,[0],_,1,Nat.zero_le _,rfl,rfl,⟨rfl⟩,⟨Nat.le_refl _⟩,HO,HP,HX2,HB2⟩
 case round =>
  obtain ⟨k,q,Aq,cq,hk,rfl,rfl,HQ,HLQ,HRr,HPr,HXr,HBr⟩:=hrel
  have HQL : Aside0 (q.length ≤ 10000):=⟨by rw [HQ.out];exact outF_len HF.out.1 HF.out.2 HW.out k⟩
  clear HO HP HX2 HB2
  by_cases hlt : k < 4
  ·have hk' : k = 0 ∨ k = 1 ∨ k = 2 ∨ k = 3:=by omega
   rcases hk' with rfl|rfl|rfl|rfl
   ·have hP:=HPr.out
    have hx0 : wr.cell? ⟨g,0,none⟩ = some (f0 63):=(blk_cell hP.1 0).trans rfl
    have hx1 : wr.cell? ⟨g,1,none⟩ = some (f0 64):=(blk_cell hP.1 1).trans rfl
    have hx2 : wr.cell? ⟨g,2,none⟩ = some (f0 67):=(blk_cell hP.1 2).trans rfl
    have hk4 : decide ((0 : Int) < 4) = true:=rfl
    have hBa : Below wr.heap.size wr (wr.alloc (.cells #[f0 63,f0 64,f0 67] 64)):=below_alloc (Below.refl _ _) _
    have HPW:=Aside0.mk (hP.below hBa (Nat.le_refl _))
    have hbx : (wr.alloc (.cells #[f0 63,f0 64,f0 67] 64)).heap[w.heap.size]? = some (eBox A l.length cp a b c):=(Below.heap_alloc _ _ _ (blk_lt HXr.out)).trans HXr.out
    have hbn:=World.alloc_heap_new wr (.cells #[f0 63,f0 64,f0 67] 64)
    have HBX:=Aside0.mk hbx
    have HBN:=Aside0.mk hbn
    have HBA:=Aside0.mk hBa
    have HBW:=Aside0.mk (below_then HBr.out HBr.out.size hBa)
    have HQA:=Aside0.mk (Kd.R_below HRr.out hBa)
    have hz0 : (wr.alloc (.cells #[f0 63,f0 64,f0 67] 64)).cell? ⟨w.heap.size,0,none⟩ = some (.slice A l.length cp):=(blk_cell hbx 0).trans rfl
    have hz1 : (wr.alloc (.cells #[f0 63,f0 64,f0 67] 64)).cell? ⟨w.heap.size,1,none⟩ = some (.int .u64 a):=(blk_cell hbx 1).trans rfl
    have hz2 : (wr.alloc (.cells #[f0 63,f0 64,f0 67] 64)).cell? ⟨w.heap.size,2,none⟩ = some (.int .u64 b):=(blk_cell hbx 2).trans rfl
    have hz3 : (wr.alloc (.cells #[f0 63,f0 64,f0 67] 64)).cell? ⟨w.heap.size,3,none⟩ = some (.int .u64 c):=(blk_cell hbx 3).trans rfl
    clear hP hBa hbn hbx
    by_cases hp : 0 < l.length
    ·have hIS:=(isA_calls A l.length cp a b c (wr.alloc (.cells #[f0 63,f0 64,f0 67] 64)))
     rw [decide_eq_true hp] at hIS
     have HIS:=Aside0.mk hIS
     have HP0:=Aside0.mk hp
     clear hIS hp
     go_wp2_with (first
      | (go_at_call 63;(with_reducible refine HIS.out.mono ?_);rintro e W3 ⟨rfl,hd⟩;have HP3:=Aside0.mk (HPW.out.below hd (Nat.le_refl _));have hbx3:=(hd.block _ (blk_lt HBX.out)).trans HBX.out;have HB3:=Aside0.mk (below_then HBW.out HBW.out.size hd);have HC3:=Aside0.mk (below_then HBA.out HBA.out.size hd);have hbn3:=(hd.block _ (blk_lt HBN.out)).trans HBN.out;have hn1:=(blk_cell hbn3 1).trans rfl;have HQ3:=Aside0.mk (Kd.R_below HQA.out hd);clear hd hz0 hz1 hz2 hz3 hbn3;have hy0:=(blk_cell hbx3 0).trans rfl;have hy1:=(blk_cell hbx3 1).trans rfl;have hy2:=(blk_cell hbx3 2).trans rfl;have hy3:=(blk_cell hbx3 3).trans rfl;clear hbx3)
      | (go_at_call 64;refine (putA_calls A cp l a b c Aq cq q W3 (Kd.C_below HR.out HB3.out) HC.out (Kd.R_reads' HQ3.out).2.2 HLQ.out (by have:=HQL.out;omega) HF.out.1 HF.out.2).mono ?_;rintro e W4 ⟨v4,rfl,hv4,hd4⟩;have HV4:=Aside0.mk hv4;have HB4:=Aside0.mk (below_then HB3.out HB3.out.size hd4);have HC4:=Aside0.mk (below_then HC3.out HC3.out.size hd4);have HS3 : Aside0 (wr.heap.size ≤ W3.heap.size ∧ w.heap.size ≤ W3.heap.size):=⟨HC3.out.size,HB3.out.size⟩;clear hv4 hd4 hy0 hy1 hy2 hy3 hn1))
     obtain ⟨hd0,hhd⟩ : ∃ x,x = (0 : Int):=⟨_,rfl⟩
     obtain ⟨bd,hbd⟩ : ∃ x,x = ([] : List Int):=⟨_,rfl⟩
     obtain ⟨ad,had⟩ : ∃ x,x = (vint l.length ++ notesF l):=⟨_,rfl⟩
     have hq : q = hd0 :: bd:=by rw [HQ.out,hhd,hbd];rfl
     have hv:=HV4.out
     rw [hq,List.cons_append,← had] at hv
     obtain ⟨go,co,hve,hgb,hgl,_⟩:=Kd.R_form hv (by simp)
     subst hve
     have hb0 : 0 ≤ hd0 ∧ hd0 < 1:=by rw [hhd];exact ⟨by omega,by omega⟩
     have hor : bits .or .u8 hd0 1 = hd0 + 1:=by
      have h5:=or_fin1 ⟨hd0.toNat,by omega⟩
      rwa [show (((⟨hd0.toNat,by omega⟩ : Fin 1).val : Nat) : Int) = hd0 from Int.toNat_of_nonneg hb0.1] at h5
     generalize hn1 : (hd0 :: (bd ++ ad)).length = n1 at *
     have hn0 : 0 < n1:=by rw [List.length_cons] at hn1;omega
     have hn0' : (0 : Int) < (n1 : Int):=by omega
     have hor' : bits .or .u8 hd0 (IntKind.u8.wrap 1) = hd0 + 1:=hor
     have hh:=R_head hv
     have hcc:=hh.1
     have hfz:=hh.2.1
     have HH:=Aside0.mk (hh.2.2 (hd0 + 1))
     have HN1:=Aside0.mk hn1
     have HGB:=Aside0.mk hgb
     have HHD:=Aside0.mk hhd
     have HBD:=Aside0.mk hbd
     have HAD:=Aside0.mk had
     have HHQ:=Aside0.mk hq
     have hbb:=HB4.out
     clear hv hh hn1 hgb hgl hhd hbd had hq hb0 HV4 hbb
     go_region_law (fail)
     all_goals
      go_wp2
      have hR6:=Kd.R_lower (Kd.R_drew (HH.out).1) HS3.out.2
      have hlen : ((hd0 + 1) :: (bd ++ ad)).length = n1:=by rw [← HN1.out];simp only [List.length_cons]
      have hHB : Below wr.heap.size wr (W4.setCell ⟨go,0,none⟩ (.int .u8 (hd0 + 1))).drew:=(HC4.out.setCell (p:=⟨go,0,none⟩) (Nat.le_trans HS3.out.1 HGB.out) _).drew
      have hHW : Below w.heap.size w (W4.setCell ⟨go,0,none⟩ (.int .u8 (hd0 + 1))).drew:=(HB4.out.setCell (p:=⟨go,0,none⟩) (Nat.le_trans HS3.out.2 HGB.out) _).drew
      rw [← hlen] at hR6
      refine ⟨⟨1,(hd0 + 1) :: (bd ++ ad),some ⟨go,0,none⟩,co,by omega,rfl,by rw [hlen],⟨?_⟩,⟨(Kd.R_reads' hR6).2.1⟩,⟨hR6⟩,⟨HPr.out.below hHB (Nat.le_refl _)⟩,⟨(hHB.block _ (blk_lt HXr.out)).trans HXr.out⟩,⟨hHW⟩⟩,by decide⟩
      have hp:=HP0.out
      rw [HHD.out,HBD.out,HAD.out]
      show _ = bitF l.length 1 :: addF l
      rw [bitF_some (show (0 : Int) < (l.length : Int) by omega),addF,if_pos hp];rfl
    ·have hIS:=(isA_calls A l.length cp a b c (wr.alloc (.cells #[f0 63,f0 64,f0 67] 64)))
     rw [decide_eq_false hp] at hIS
     have HIS:=Aside0.mk hIS
     have HP0:=Aside0.mk hp
     clear hIS hp
     go_wp2_with (go_at_call 63;(with_reducible refine HIS.out.mono ?_);rintro e W3 ⟨rfl,hd⟩;have HP3:=Aside0.mk (HPW.out.below hd (Nat.le_refl _));have HX3:=Aside0.mk ((hd.block _ (blk_lt HBX.out)).trans HBX.out);have HB3:=Aside0.mk (below_then HBW.out HBW.out.size hd);have HQ3:=Aside0.mk (Kd.R_below HQA.out hd);clear hd hz0 hz1 hz2 hz3)
     refine ⟨⟨1,q,Aq,cq,by omega,rfl,rfl,⟨?_⟩,HLQ,HQ3,HP3,HX3,HB3⟩,by decide⟩
     have hp : ¬ 0 < l.length:=by have:=HP0.out;omega
     rw [HQ.out]
     show (0 : Int) :: ([] : List Int) = bitF l.length 1 :: addF l
     rw [bitF_none (show ¬ (0 : Int) < (l.length : Int) by omega),addF,if_neg hp]

   ·have hP:=HPr.out
    have hx0 : wr.cell? ⟨g,3,none⟩ = some (fv 70 m1):=(blk_cell hP.1 3).trans rfl
    have hx1 : wr.cell? ⟨g,4,none⟩ = some (fv 71 m1):=(blk_cell hP.1 4).trans rfl
    have hx2 : wr.cell? ⟨g,5,none⟩ = some (fv 72 m1):=(blk_cell hP.1 5).trans rfl
    have hk4 : decide ((1 : Int) < 4) = true:=rfl
    have hBa : Below wr.heap.size wr (wr.alloc (.cells #[fv 70 m1,fv 71 m1,fv 72 m1] 64)):=below_alloc (Below.refl _ _) _
    have HPW:=Aside0.mk (hP.below hBa (Nat.le_refl _))
    have HMW : Aside0 ((wr.alloc (.cells #[fv 70 m1,fv 71 m1,fv 72 m1] 64)).heap[m1]? = some (.cells #[f0 50] tSel)):=⟨(HPW.out).2.1⟩
    have hbx : (wr.alloc (.cells #[fv 70 m1,fv 71 m1,fv 72 m1] 64)).heap[w.heap.size]? = some (eBox A l.length cp a b c):=(Below.heap_alloc _ _ _ (blk_lt HXr.out)).trans HXr.out
    have hbn:=World.alloc_heap_new wr (.cells #[fv 70 m1,fv 71 m1,fv 72 m1] 64)
    have HBX:=Aside0.mk hbx
    have HBN:=Aside0.mk hbn
    have HBA:=Aside0.mk hBa
    have HBW:=Aside0.mk (below_then HBr.out HBr.out.size hBa)
    have HQA:=Aside0.mk (Kd.R_below HRr.out hBa)
    have hz0 : (wr.alloc (.cells #[fv 70 m1,fv 71 m1,fv 72 m1] 64)).cell? ⟨w.heap.size,0,none⟩ = some (.slice A l.length cp):=(blk_cell hbx 0).trans rfl
    have hz1 : (wr.alloc (.cells #[fv 70 m1,fv 71 m1,fv 72 m1] 64)).cell? ⟨w.heap.size,1,none⟩ = some (.int .u64 a):=(blk_cell hbx 1).trans rfl
    have hz2 : (wr.alloc (.cells #[fv 70 m1,fv 71 m1,fv 72 m1] 64)).cell? ⟨w.heap.size,2,none⟩ = some (.int .u64 b):=(blk_cell hbx 2).trans rfl
    have hz3 : (wr.alloc (.cells #[fv 70 m1,fv 71 m1,fv 72 m1] 64)).cell? ⟨w.heap.size,3,none⟩ = some (.int .u64 c):=(blk_cell hbx 3).trans rfl
    clear hP hBa hbn hbx
    by_cases hp : 0 < a
    ·have hIS:=is1_calls m1 A l.length cp a b c _ HMW.out
     rw [decide_eq_true hp] at hIS
     have HIS:=Aside0.mk hIS
     have HP0:=Aside0.mk hp
     clear hIS hp
     go_wp2_with (first
      | (go_at_call 70;(with_reducible refine HIS.out.mono ?_);rintro e W3 ⟨rfl,hd⟩;have HP3:=Aside0.mk (HPW.out.below hd (Nat.le_refl _));have hbx3:=(hd.block _ (blk_lt HBX.out)).trans HBX.out;have HB3:=Aside0.mk (below_then HBW.out HBW.out.size hd);have HC3:=Aside0.mk (below_then HBA.out HBA.out.size hd);have hbn3:=(hd.block _ (blk_lt HBN.out)).trans HBN.out;have hn1:=(blk_cell hbn3 1).trans rfl;have HQ3:=Aside0.mk (Kd.R_below HQA.out hd);clear hd hz0 hz1 hz2 hz3 hbn3;have hy0:=(blk_cell hbx3 0).trans rfl;have hy1:=(blk_cell hbx3 1).trans rfl;have hy2:=(blk_cell hbx3 2).trans rfl;have hy3:=(blk_cell hbx3 3).trans rfl;clear hbx3)
      | (go_at_call 71;refine (put1_calls m1 A l.length cp a b c Aq cq q W3 (HP3.out).2.1 (Kd.R_reads' HQ3.out).2.2 HLQ.out (by have:=HQL.out;omega) HW.out.2.1).mono ?_;rintro e W4 ⟨v4,rfl,hv4,hd4⟩;have HV4:=Aside0.mk hv4;have HB4:=Aside0.mk (below_then HB3.out HB3.out.size hd4);have HC4:=Aside0.mk (below_then HC3.out HC3.out.size hd4);have HS3 : Aside0 (wr.heap.size ≤ W3.heap.size ∧ w.heap.size ≤ W3.heap.size):=⟨HC3.out.size,HB3.out.size⟩;clear hv4 hd4 hy0 hy1 hy2 hy3 hn1))
     obtain ⟨hd0,hhd⟩ : ∃ x,x = (bitF l.length 1):=⟨_,rfl⟩
     obtain ⟨bd,hbd⟩ : ∃ x,x = (addF l):=⟨_,rfl⟩
     obtain ⟨ad,had⟩ : ∃ x,x = vint a.toNat:=⟨_,rfl⟩
     have hq : q = hd0 :: bd:=by rw [HQ.out,hhd,hbd];rfl
     have hv:=HV4.out
     rw [hq,List.cons_append,← had] at hv
     obtain ⟨go,co,hve,hgb,hgl,_⟩:=Kd.R_form hv (by simp)
     subst hve
     have hb0 : 0 ≤ hd0 ∧ hd0 < 2:=by rw [hhd];have:=bitF_nn l.length 1 (by omega);omega
     have hor : bits .or .u8 hd0 2 = hd0 + 2:=by
      have h5:=or_fin2 ⟨hd0.toNat,by omega⟩
      rwa [show (((⟨hd0.toNat,by omega⟩ : Fin 2).val : Nat) : Int) = hd0 from Int.toNat_of_nonneg hb0.1] at h5
     generalize hn1 : (hd0 :: (bd ++ ad)).length = n1 at *
     have hn0 : 0 < n1:=by rw [List.length_cons] at hn1;omega
     have hn0' : (0 : Int) < (n1 : Int):=by omega
     have hor' : bits .or .u8 hd0 (IntKind.u8.wrap 2) = hd0 + 2:=hor
     have hh:=R_head hv
     have hcc:=hh.1
     have hfz:=hh.2.1
     have HH:=Aside0.mk (hh.2.2 (hd0 + 2))
     have HN1:=Aside0.mk hn1
     have HGB:=Aside0.mk hgb
     have HHD:=Aside0.mk hhd
     have HBD:=Aside0.mk hbd
     have HAD:=Aside0.mk had
     have HHQ:=Aside0.mk hq
     have hbb:=HB4.out
     clear hv hh hn1 hgb hgl hhd hbd had hq hb0 HV4 hbb
     go_region_law (fail)
     all_goals
      go_wp2
      have hR6:=Kd.R_lower (Kd.R_drew (HH.out).1) HS3.out.2
      have hlen : ((hd0 + 2) :: (bd ++ ad)).length = n1:=by rw [← HN1.out];simp only [List.length_cons]
      have hHB : Below wr.heap.size wr (W4.setCell ⟨go,0,none⟩ (.int .u8 (hd0 + 2))).drew:=(HC4.out.setCell (p:=⟨go,0,none⟩) (Nat.le_trans HS3.out.1 HGB.out) _).drew
      have hHW : Below w.heap.size w (W4.setCell ⟨go,0,none⟩ (.int .u8 (hd0 + 2))).drew:=(HB4.out.setCell (p:=⟨go,0,none⟩) (Nat.le_trans HS3.out.2 HGB.out) _).drew
      rw [← hlen] at hR6
      refine ⟨⟨2,(hd0 + 2) :: (bd ++ ad),some ⟨go,0,none⟩,co,by omega,rfl,by rw [hlen],⟨?_⟩,⟨(Kd.R_reads' hR6).2.1⟩,⟨hR6⟩,⟨HPr.out.below hHB (Nat.le_refl _)⟩,⟨(hHB.block _ (blk_lt HXr.out)).trans HXr.out⟩,⟨hHW⟩⟩,by decide⟩
      have hp:=HP0.out
      rw [HHD.out,HBD.out,HAD.out]
      show _ = (bitF l.length 1 + bitF a 2) :: (addF l ++ numF a)
      rw [bitF_some hp,numF_some hp]
    ·have hIS:=is1_calls m1 A l.length cp a b c _ HMW.out
     rw [decide_eq_false hp] at hIS
     have HIS:=Aside0.mk hIS
     have HP0:=Aside0.mk hp
     clear hIS hp
     go_wp2_with (go_at_call 70;(with_reducible refine HIS.out.mono ?_);rintro e W3 ⟨rfl,hd⟩;have HP3:=Aside0.mk (HPW.out.below hd (Nat.le_refl _));have HX3:=Aside0.mk ((hd.block _ (blk_lt HBX.out)).trans HBX.out);have HB3:=Aside0.mk (below_then HBW.out HBW.out.size hd);have HQ3:=Aside0.mk (Kd.R_below HQA.out hd);clear hd hz0 hz1 hz2 hz3)
     refine ⟨⟨2,q,Aq,cq,by omega,rfl,rfl,⟨?_⟩,HLQ,HQ3,HP3,HX3,HB3⟩,by decide⟩
     have hp : ¬ 0 < a:=by have:=HP0.out;omega
     rw [HQ.out]
     show (bitF l.length 1) :: (addF l) = (bitF l.length 1 + bitF a 2) :: (addF l ++ numF a)
     rw [bitF_none hp,numF_none hp,Int.add_zero,List.append_nil]

   ·have hP:=HPr.out
    have hx0 : wr.cell? ⟨g,6,none⟩ = some (fv 70 m2):=(blk_cell hP.1 6).trans rfl
    have hx1 : wr.cell? ⟨g,7,none⟩ = some (fv 71 m2):=(blk_cell hP.1 7).trans rfl
    have hx2 : wr.cell? ⟨g,8,none⟩ = some (fv 72 m2):=(blk_cell hP.1 8).trans rfl
    have hk4 : decide ((2 : Int) < 4) = true:=rfl
    have hBa : Below wr.heap.size wr (wr.alloc (.cells #[fv 70 m2,fv 71 m2,fv 72 m2] 64)):=below_alloc (Below.refl _ _) _
    have HPW:=Aside0.mk (hP.below hBa (Nat.le_refl _))
    have HMW : Aside0 ((wr.alloc (.cells #[fv 70 m2,fv 71 m2,fv 72 m2] 64)).heap[m2]? = some (.cells #[f0 51] tSel)):=⟨(HPW.out).2.2.1⟩
    have hbx : (wr.alloc (.cells #[fv 70 m2,fv 71 m2,fv 72 m2] 64)).heap[w.heap.size]? = some (eBox A l.length cp a b c):=(Below.heap_alloc _ _ _ (blk_lt HXr.out)).trans HXr.out
    have hbn:=World.alloc_heap_new wr (.cells #[fv 70 m2,fv 71 m2,fv 72 m2] 64)
    have HBX:=Aside0.mk hbx
    have HBN:=Aside0.mk hbn
    have HBA:=Aside0.mk hBa
    have HBW:=Aside0.mk (below_then HBr.out HBr.out.size hBa)
    have HQA:=Aside0.mk (Kd.R_below HRr.out hBa)
    have hz0 : (wr.alloc (.cells #[fv 70 m2,fv 71 m2,fv 72 m2] 64)).cell? ⟨w.heap.size,0,none⟩ = some (.slice A l.length cp):=(blk_cell hbx 0).trans rfl
    have hz1 : (wr.alloc (.cells #[fv 70 m2,fv 71 m2,fv 72 m2] 64)).cell? ⟨w.heap.size,1,none⟩ = some (.int .u64 a):=(blk_cell hbx 1).trans rfl
    have hz2 : (wr.alloc (.cells #[fv 70 m2,fv 71 m2,fv 72 m2] 64)).cell? ⟨w.heap.size,2,none⟩ = some (.int .u64 b):=(blk_cell hbx 2).trans rfl
    have hz3 : (wr.alloc (.cells #[fv 70 m2,fv 71 m2,fv 72 m2] 64)).cell? ⟨w.heap.size,3,none⟩ = some (.int .u64 c):=(blk_cell hbx 3).trans rfl
    clear hP hBa hbn hbx
    by_cases hp : 0 < b
    ·have hIS:=is2_calls m2 A l.length cp a b c _ HMW.out
     rw [decide_eq_true hp] at hIS
     have HIS:=Aside0.mk hIS
     have HP0:=Aside0.mk hp
     clear hIS hp
     go_wp2_with (first
      | (go_at_call 70;(with_reducible refine HIS.out.mono ?_);rintro e W3 ⟨rfl,hd⟩;have HP3:=Aside0.mk (HPW.out.below hd (Nat.le_refl _));have hbx3:=(hd.block _ (blk_lt HBX.out)).trans HBX.out;have HB3:=Aside0.mk (below_then HBW.out HBW.out.size hd);have HC3:=Aside0.mk (below_then HBA.out HBA.out.size hd);have hbn3:=(hd.block _ (blk_lt HBN.out)).trans HBN.out;have hn1:=(blk_cell hbn3 1).trans rfl;have HQ3:=Aside0.mk (Kd.R_below HQA.out hd);clear hd hz0 hz1 hz2 hz3 hbn3;have hy0:=(blk_cell hbx3 0).trans rfl;have hy1:=(blk_cell hbx3 1).trans rfl;have hy2:=(blk_cell hbx3 2).trans rfl;have hy3:=(blk_cell hbx3 3).trans rfl;clear hbx3)
      | (go_at_call 71;refine (put2_calls m2 A l.length cp a b c Aq cq q W3 (HP3.out).2.2.1 (Kd.R_reads' HQ3.out).2.2 HLQ.out (by have:=HQL.out;omega) HW.out.2.2.1).mono ?_;rintro e W4 ⟨v4,rfl,hv4,hd4⟩;have HV4:=Aside0.mk hv4;have HB4:=Aside0.mk (below_then HB3.out HB3.out.size hd4);have HC4:=Aside0.mk (below_then HC3.out HC3.out.size hd4);have HS3 : Aside0 (wr.heap.size ≤ W3.heap.size ∧ w.heap.size ≤ W3.heap.size):=⟨HC3.out.size,HB3.out.size⟩;clear hv4 hd4 hy0 hy1 hy2 hy3 hn1))
     obtain ⟨hd0,hhd⟩ : ∃ x,x = (bitF l.length 1 + bitF a 2):=⟨_,rfl⟩
     obtain ⟨bd,hbd⟩ : ∃ x,x = (addF l ++ numF a):=⟨_,rfl⟩
     obtain ⟨ad,had⟩ : ∃ x,x = vint b.toNat:=⟨_,rfl⟩
     have hq : q = hd0 :: bd:=by rw [HQ.out,hhd,hbd];rfl
     have hv:=HV4.out
     rw [hq,List.cons_append,← had] at hv
     obtain ⟨go,co,hve,hgb,hgl,_⟩:=Kd.R_form hv (by simp)
     subst hve
     have hb0 : 0 ≤ hd0 ∧ hd0 < 4:=by rw [hhd];have:=bitF_nn l.length 1 (by omega);have:=bitF_nn a 2 (by omega);omega
     have hor : bits .or .u8 hd0 4 = hd0 + 4:=by
      have h5:=or_fin4 ⟨hd0.toNat,by omega⟩
      rwa [show (((⟨hd0.toNat,by omega⟩ : Fin 4).val : Nat) : Int) = hd0 from Int.toNat_of_nonneg hb0.1] at h5
     generalize hn1 : (hd0 :: (bd ++ ad)).length = n1 at *
     have hn0 : 0 < n1:=by rw [List.length_cons] at hn1;omega
     have hn0' : (0 : Int) < (n1 : Int):=by omega
     have hor' : bits .or .u8 hd0 (IntKind.u8.wrap 4) = hd0 + 4:=hor
     have hh:=R_head hv
     have hcc:=hh.1
     have hfz:=hh.2.1
     have HH:=Aside0.mk (hh.2.2 (hd0 + 4))
     have HN1:=Aside0.mk hn1
     have HGB:=Aside0.mk hgb
     have HHD:=Aside0.mk hhd
     have HBD:=Aside0.mk hbd
     have HAD:=Aside0.mk had
     have HHQ:=Aside0.mk hq
     have hbb:=HB4.out
     clear hv hh hn1 hgb hgl hhd hbd had hq hb0 HV4 hbb
     go_region_law (fail)
     all_goals
      go_wp2
      have hR6:=Kd.R_lower (Kd.R_drew (HH.out).1) HS3.out.2
      have hlen : ((hd0 + 4) :: (bd ++ ad)).length = n1:=by rw [← HN1.out];simp only [List.length_cons]
      have hHB : Below wr.heap.size wr (W4.setCell ⟨go,0,none⟩ (.int .u8 (hd0 + 4))).drew:=(HC4.out.setCell (p:=⟨go,0,none⟩) (Nat.le_trans HS3.out.1 HGB.out) _).drew
      have hHW : Below w.heap.size w (W4.setCell ⟨go,0,none⟩ (.int .u8 (hd0 + 4))).drew:=(HB4.out.setCell (p:=⟨go,0,none⟩) (Nat.le_trans HS3.out.2 HGB.out) _).drew
      rw [← hlen] at hR6
      refine ⟨⟨3,(hd0 + 4) :: (bd ++ ad),some ⟨go,0,none⟩,co,by omega,rfl,by rw [hlen],⟨?_⟩,⟨(Kd.R_reads' hR6).2.1⟩,⟨hR6⟩,⟨HPr.out.below hHB (Nat.le_refl _)⟩,⟨(hHB.block _ (blk_lt HXr.out)).trans HXr.out⟩,⟨hHW⟩⟩,by decide⟩
      have hp:=HP0.out
      rw [HHD.out,HBD.out,HAD.out]
      show _ = (bitF l.length 1 + bitF a 2 + bitF b 4) :: (addF l ++ (numF a ++ numF b))
      rw [bitF_some hp,numF_some hp,List.append_assoc]
    ·have hIS:=is2_calls m2 A l.length cp a b c _ HMW.out
     rw [decide_eq_false hp] at hIS
     have HIS:=Aside0.mk hIS
     have HP0:=Aside0.mk hp
     clear hIS hp
     go_wp2_with (go_at_call 70;(with_reducible refine HIS.out.mono ?_);rintro e W3 ⟨rfl,hd⟩;have HP3:=Aside0.mk (HPW.out.below hd (Nat.le_refl _));have HX3:=Aside0.mk ((hd.block _ (blk_lt HBX.out)).trans HBX.out);have HB3:=Aside0.mk (below_then HBW.out HBW.out.size hd);have HQ3:=Aside0.mk (Kd.R_below HQA.out hd);clear hd hz0 hz1 hz2 hz3)
     refine ⟨⟨3,q,Aq,cq,by omega,rfl,rfl,⟨?_⟩,HLQ,HQ3,HP3,HX3,HB3⟩,by decide⟩
     have hp : ¬ 0 < b:=by have:=HP0.out;omega
     rw [HQ.out]
     show (bitF l.length 1 + bitF a 2) :: (addF l ++ numF a) = (bitF l.length 1 + bitF a 2 + bitF b 4) :: (addF l ++ (numF a ++ numF b))
     rw [bitF_none hp,numF_none hp,Int.add_zero,List.append_nil]

   ·have hP:=HPr.out
    have hx0 : wr.cell? ⟨g,9,none⟩ = some (fv 70 m3):=(blk_cell hP.1 9).trans rfl
    have hx1 : wr.cell? ⟨g,10,none⟩ = some (fv 71 m3):=(blk_cell hP.1 10).trans rfl
    have hx2 : wr.cell? ⟨g,11,none⟩ = some (fv 72 m3):=(blk_cell hP.1 11).trans rfl
    have hk4 : decide ((3 : Int) < 4) = true:=rfl
    have hBa : Below wr.heap.size wr (wr.alloc (.cells #[fv 70 m3,fv 71 m3,fv 72 m3] 64)):=below_alloc (Below.refl _ _) _
    have HPW:=Aside0.mk (hP.below hBa (Nat.le_refl _))
    have HMW : Aside0 ((wr.alloc (.cells #[fv 70 m3,fv 71 m3,fv 72 m3] 64)).heap[m3]? = some (.cells #[f0 52] tSel)):=⟨(HPW.out).2.2.2⟩
    have hbx : (wr.alloc (.cells #[fv 70 m3,fv 71 m3,fv 72 m3] 64)).heap[w.heap.size]? = some (eBox A l.length cp a b c):=(Below.heap_alloc _ _ _ (blk_lt HXr.out)).trans HXr.out
    have hbn:=World.alloc_heap_new wr (.cells #[fv 70 m3,fv 71 m3,fv 72 m3] 64)
    have HBX:=Aside0.mk hbx
    have HBN:=Aside0.mk hbn
    have HBA:=Aside0.mk hBa
    have HBW:=Aside0.mk (below_then HBr.out HBr.out.size hBa)
    have HQA:=Aside0.mk (Kd.R_below HRr.out hBa)
    have hz0 : (wr.alloc (.cells #[fv 70 m3,fv 71 m3,fv 72 m3] 64)).cell? ⟨w.heap.size,0,none⟩ = some (.slice A l.length cp):=(blk_cell hbx 0).trans rfl
    have hz1 : (wr.alloc (.cells #[fv 70 m3,fv 71 m3,fv 72 m3] 64)).cell? ⟨w.heap.size,1,none⟩ = some (.int .u64 a):=(blk_cell hbx 1).trans rfl
    have hz2 : (wr.alloc (.cells #[fv 70 m3,fv 71 m3,fv 72 m3] 64)).cell? ⟨w.heap.size,2,none⟩ = some (.int .u64 b):=(blk_cell hbx 2).trans rfl
    have hz3 : (wr.alloc (.cells #[fv 70 m3,fv 71 m3,fv 72 m3] 64)).cell? ⟨w.heap.size,3,none⟩ = some (.int .u64 c):=(blk_cell hbx 3).trans rfl
    clear hP hBa hbn hbx
    by_cases hp : 0 < c
    ·have hIS:=is3_calls m3 A l.length cp a b c _ HMW.out
     rw [decide_eq_true hp] at hIS
     have HIS:=Aside0.mk hIS
     have HP0:=Aside0.mk hp
     clear hIS hp
     go_wp2_with (first
      | (go_at_call 70;(with_reducible refine HIS.out.mono ?_);rintro e W3 ⟨rfl,hd⟩;have HP3:=Aside0.mk (HPW.out.below hd (Nat.le_refl _));have hbx3:=(hd.block _ (blk_lt HBX.out)).trans HBX.out;have HB3:=Aside0.mk (below_then HBW.out HBW.out.size hd);have HC3:=Aside0.mk (below_then HBA.out HBA.out.size hd);have hbn3:=(hd.block _ (blk_lt HBN.out)).trans HBN.out;have hn1:=(blk_cell hbn3 1).trans rfl;have HQ3:=Aside0.mk (Kd.R_below HQA.out hd);clear hd hz0 hz1 hz2 hz3 hbn3;have hy0:=(blk_cell hbx3 0).trans rfl;have hy1:=(blk_cell hbx3 1).trans rfl;have hy2:=(blk_cell hbx3 2).trans rfl;have hy3:=(blk_cell hbx3 3).trans rfl;clear hbx3)
      | (go_at_call 71;refine (put3_calls m3 A l.length cp a b c Aq cq q W3 (HP3.out).2.2.2 (Kd.R_reads' HQ3.out).2.2 HLQ.out (by have:=HQL.out;omega) HW.out.2.2.2).mono ?_;rintro e W4 ⟨v4,rfl,hv4,hd4⟩;have HV4:=Aside0.mk hv4;have HB4:=Aside0.mk (below_then HB3.out HB3.out.size hd4);have HC4:=Aside0.mk (below_then HC3.out HC3.out.size hd4);have HS3 : Aside0 (wr.heap.size ≤ W3.heap.size ∧ w.heap.size ≤ W3.heap.size):=⟨HC3.out.size,HB3.out.size⟩;clear hv4 hd4 hy0 hy1 hy2 hy3 hn1))
     obtain ⟨hd0,hhd⟩ : ∃ x,x = (bitF l.length 1 + bitF a 2 + bitF b 4):=⟨_,rfl⟩
     obtain ⟨bd,hbd⟩ : ∃ x,x = (addF l ++ (numF a ++ numF b)):=⟨_,rfl⟩
     obtain ⟨ad,had⟩ : ∃ x,x = vint c.toNat:=⟨_,rfl⟩
     have hq : q = hd0 :: bd:=by rw [HQ.out,hhd,hbd];rfl
     have hv:=HV4.out
     rw [hq,List.cons_append,← had] at hv
     obtain ⟨go,co,hve,hgb,hgl,_⟩:=Kd.R_form hv (by simp)
     subst hve
     have hb0 : 0 ≤ hd0 ∧ hd0 < 8:=by rw [hhd];have:=bitF_nn l.length 1 (by omega);have:=bitF_nn a 2 (by omega);have:=bitF_nn b 4 (by omega);omega
     have hor : bits .or .u8 hd0 8 = hd0 + 8:=by
      have h5:=or_fin8 ⟨hd0.toNat,by omega⟩
      rwa [show (((⟨hd0.toNat,by omega⟩ : Fin 8).val : Nat) : Int) = hd0 from Int.toNat_of_nonneg hb0.1] at h5
     generalize hn1 : (hd0 :: (bd ++ ad)).length = n1 at *
     have hn0 : 0 < n1:=by rw [List.length_cons] at hn1;omega
     have hn0' : (0 : Int) < (n1 : Int):=by omega
     have hor' : bits .or .u8 hd0 (IntKind.u8.wrap 8) = hd0 + 8:=hor
     have hh:=R_head hv
     have hcc:=hh.1
     have hfz:=hh.2.1
     have HH:=Aside0.mk (hh.2.2 (hd0 + 8))
     have HN1:=Aside0.mk hn1
     have HGB:=Aside0.mk hgb
     have HHD:=Aside0.mk hhd
     have HBD:=Aside0.mk hbd
     have HAD:=Aside0.mk had
     have HHQ:=Aside0.mk hq
     have hbb:=HB4.out
     clear hv hh hn1 hgb hgl hhd hbd had hq hb0 HV4 hbb
     go_region_law (fail)
     all_goals
      go_wp2
      have hR6:=Kd.R_lower (Kd.R_drew (HH.out).1) HS3.out.2
      have hlen : ((hd0 + 8) :: (bd ++ ad)).length = n1:=by rw [← HN1.out];simp only [List.length_cons]
      have hHB : Below wr.heap.size wr (W4.setCell ⟨go,0,none⟩ (.int .u8 (hd0 + 8))).drew:=(HC4.out.setCell (p:=⟨go,0,none⟩) (Nat.le_trans HS3.out.1 HGB.out) _).drew
      have hHW : Below w.heap.size w (W4.setCell ⟨go,0,none⟩ (.int .u8 (hd0 + 8))).drew:=(HB4.out.setCell (p:=⟨go,0,none⟩) (Nat.le_trans HS3.out.2 HGB.out) _).drew
      rw [← hlen] at hR6
      refine ⟨⟨4,(hd0 + 8) :: (bd ++ ad),some ⟨go,0,none⟩,co,by omega,rfl,by rw [hlen],⟨?_⟩,⟨(Kd.R_reads' hR6).2.1⟩,⟨hR6⟩,⟨HPr.out.below hHB (Nat.le_refl _)⟩,⟨(hHB.block _ (blk_lt HXr.out)).trans HXr.out⟩,⟨hHW⟩⟩,by decide⟩
      have hp:=HP0.out
      rw [HHD.out,HBD.out,HAD.out]
      show _ = (bitF l.length 1 + bitF a 2 + bitF b 4 + bitF c 8) :: (addF l ++ (numF a ++ (numF b ++ numF c)))
      rw [bitF_some hp,numF_some hp];simp only [List.append_assoc]
    ·have hIS:=is3_calls m3 A l.length cp a b c _ HMW.out
     rw [decide_eq_false hp] at hIS
     have HIS:=Aside0.mk hIS
     have HP0:=Aside0.mk hp
     clear hIS hp
     go_wp2_with (go_at_call 70;(with_reducible refine HIS.out.mono ?_);rintro e W3 ⟨rfl,hd⟩;have HP3:=Aside0.mk (HPW.out.below hd (Nat.le_refl _));have HX3:=Aside0.mk ((hd.block _ (blk_lt HBX.out)).trans HBX.out);have HB3:=Aside0.mk (below_then HBW.out HBW.out.size hd);have HQ3:=Aside0.mk (Kd.R_below HQA.out hd);clear hd hz0 hz1 hz2 hz3)
     refine ⟨⟨4,q,Aq,cq,by omega,rfl,rfl,⟨?_⟩,HLQ,HQ3,HP3,HX3,HB3⟩,by decide⟩
     have hp : ¬ 0 < c:=by have:=HP0.out;omega
     rw [HQ.out]
     show (bitF l.length 1 + bitF a 2 + bitF b 4) :: (addF l ++ (numF a ++ numF b)) = (bitF l.length 1 + bitF a 2 + bitF b 4 + bitF c 8) :: (addF l ++ (numF a ++ (numF b ++ numF c)))
     rw [bitF_none hp,numF_none hp,Int.add_zero,List.append_nil]
  ·obtain rfl : k = 4:=by omega
   have hk4 : decide ((4 : Int) < 4) = false:=rfl
   go_wp2
   go_ret2
   exact ⟨_,rfl,by rw [show formE l a b c = q from HQ.out.symm];exact HRr.out,HBr.out⟩

set_option maxRecDepth 100000 in
theorem bytes_no (A : Option Addr) (cp : Nat) (l : List MetaS) (a b c : Int) (w : World) (hr : Kd.C k58 w A l.length l) (hc : l.length ≤ cp) (hw : WfE l a b c) (hy : rightB l a b c = false) :
  Calls Try.prog 11 #[aggE A l.length cp a b c] w fun e w'=>∃ v,e = .returned (.tuple #[v,.int .i64 90]) ∧ Kd.R (Kd.int .u8) 5 w' w.heap.size (fun _=>True) v [] ∧ Below w.heap.size w w':=by
 have hu:=Try.underlying25
 have hb0:=World.alloc_heap_new w (eBox A l.length cp a b c)
 have HB : Below w.heap.size w (w.alloc (eBox A l.length cp a b c)):=below_alloc (Below.refl _ _) _
 have hcl:=right_calls A cp l a b c _ (Kd.C_below hr HB) hc hw
 rw [hy] at hcl
 have HCL:=Aside0.mk hcl
 have HB':=Aside0.mk HB
 clear hr hc hw hcl HB hy
 go_enter Try.func11,Try.ntmps11
 go_wp2_with (go_at_call 17;refine HCL.out.mono ?_;rintro e w1 ⟨rfl,hd⟩;have HB1:=Aside0.mk (below_then HB'.out HB'.out.size hd);clear hd hb0)
 go_ret2
 exact ⟨_,rfl,Kd.R_nil _ _ _ _ _,HB1.out⟩
theorem edit_Bytes.calls (A0_0 : Option Addr) (c0_0 : Nat) (l0_0 : List MetaS) (a0_1 a0_2 a0_3 : Int) (r1 : List Int) (r2 : Int) (w : World) (hr0_0 : Kd.C k58 w A0_0 l0_0.length l0_0) (hc0_0 : l0_0.length ≤ c0_0) (h : edit_Bytes.f l0_0 a0_1 a0_2 a0_3 = some (r1,r2)) :
  Calls Try.prog 11 #[.agg #[.slice A0_0 l0_0.length c0_0,.int .u64 a0_1,.int .u64 a0_2,.int .u64 a0_3]] w fun e w'=>∃ v0_ : Value,e = .returned (.tuple #[v0_,.int .i64 r2]) ∧ Kd.R (Kd.int .u8) 5 w' w.heap.size (fun _=>True) v0_ r1 ∧ Below w.heap.size w w':=by
 unfold edit_Bytes.f at h
 by_cases hw : WfE l0_0 a0_1 a0_2 a0_3
 ·rw [if_pos hw] at h
  have h:=Option.some.inj h
  by_cases hy : rightB l0_0 a0_1 a0_2 a0_3 = true
  ·rw [if_pos hy] at h
   simp only [Prod.mk.injEq] at h
   obtain ⟨rfl,rfl⟩:=h
   exact bytes_yes A0_0 c0_0 l0_0 a0_1 a0_2 a0_3 w hr0_0 hc0_0 hw hy
  ·rw [if_neg hy] at h
   simp only [Prod.mk.injEq] at h
   obtain ⟨rfl,rfl⟩:=h
   exact bytes_no A0_0 c0_0 l0_0 a0_1 a0_2 a0_3 w hr0_0 hc0_0 hw (by simpa using hy)
 ·rw [if_neg hw] at h
  cases h
end Go.Proofs.YtcagajobpnpicaaG

end

section
set_option linter.unusedVariables false
set_option linter.unusedSimpArgs false
namespace Go.Proofs.YtcagajobpnpicaaG
open Go Go.RowKit Go.Proofs.YtcagajobpnpicaaR Go.Proofs.YtcagajobpnpicaaL Go.Proofs.Ytcagajobpnpicaa.P Go.Proofs.YtcagajobpnpicaaW.PrintWords
attribute [local go_sem] Oper.semAt_some run_store_fn

def sameB (a b : List Int) : Bool:=(strOfNums a).toList == (strOfNums b).toList
set_option maxRecDepth 100000 in
set_option maxHeartbeats 1000000 in
theorem equal_calls (A0 : Option Addr) (c0 : Nat) (l0 : List Int) (A1 : Option Addr) (c1 : Nat) (l1 : List Int) (w : World) (hr0 : Kd.C (Kd.int .u8) w A0 l0.length l0) (hc0 : l0.length ≤ c0) (hr1 : Kd.C (Kd.int .u8) w A1 l1.length l1) (hc1 : l1.length ≤ c1) :
  Calls Try.prog 35 #[.slice A0 l0.length c0,.slice A1 l1.length c1] w fun e w'=>e = .returned (.bool (sameB l0 l1)) ∧ Below w.heap.size w w':=by
 have HR0:=Aside0.mk hr0
 have HR1:=Aside0.mk hr1
 clear hr0 hr1
 have hcv3:=Kd.C_string (P:=Try.prog) (A:=A0) (c:=c0) Try.underlying26 Try.underlying5 Try.underlying9 HR0.out
 have hcv4:=Kd.C_string (P:=Try.prog) (A:=A1) (c:=c1) Try.underlying26 Try.underlying5 Try.underlying9 HR1.out
 go_enter Try.func35,Try.ntmps35
 go_wp2
 go_ret
 exact ⟨rfl,Below.refl _ _⟩

abbrev PS : Type:=List MetaS × Int × Int × Int × List Int × Bool
def bitB (h : Int) : Nat → Bool
 | 0=>bits .and .u8 h 1 == 1
 | 1=>bits .and .u8 (h / 2) 1 == 1
 | 2=>bits .and .u8 (h / 4) 1 == 1
 | _=>bits .and .u8 (h / 8) 1 == 1
def stepP (h : Int) : Nat → PS → Option PS
 | 0,(l,a,b,c,r,bad)=>if bitB h 0 = true then (addT r bad).bind fun t=>some (t.1,a,b,c,t.2.1,t.2.2) else some (l,a,b,c,r,bad)
 | 1,(l,a,b,c,r,bad)=>if bitB h 1 = true then (nums_Take.f r).bind fun t=>some (l,t.1,b,c,t.2.1,bad || !t.2.2) else some (l,a,b,c,r,bad)
 | 2,(l,a,b,c,r,bad)=>if bitB h 2 = true then (nums_Take.f r).bind fun t=>some (l,a,t.1,c,t.2.1,bad || !t.2.2) else some (l,a,b,c,r,bad)
 | _,(l,a,b,c,r,bad)=>if bitB h 3 = true then (nums_Take.f r).bind fun t=>some (l,a,b,t.1,t.2.1,bad || !t.2.2) else some (l,a,b,c,r,bad)
def runP (h : Int) : Nat → Nat → PS → Option PS
 | 0,_,s=>some s
 | n + 1,i,s=>(stepP h i s).bind fun t=>runP h n (i + 1) t
def edit_Parse.f (l0 : List Int) : Option (List MetaS × Int × Int × Int × Int):=match l0 with
 | []=>some ([],0,0,0,90)
 | h :: t=>(runP h 4 0 ([],0,0,0,t,false)).bind fun s=>(edit_Bytes.f s.1 s.2.1 s.2.2.1 s.2.2.2.1).bind fun u =>
  if s.2.2.2.2.2 = true ∨ u.2 ≠ 0 ∨ sameB u.1 (h :: t) = false then some ([],0,0,0,90) else some (s.1,s.2.1,s.2.2.1,s.2.2.2.1,0)

/-- The state of edit.Parse. -/
structure PSt (g m1 m2 m3 ge r rb : Nat) (v : Value) (l : List MetaS) (a b c : Int) (rest : List Int) (bad : Bool) (W0 W : World) : Prop where
 rd : Rd r (fun k=>k ≠ r ∧ k ≠ ge ∧ some k ≠ v.ownBlock) W rest bad
 row : Kd.R k58 58 W W0.heap.size (fun k=>k ≠ r ∧ k ≠ ge) v l
 bx : W.heap[ge]? = some (eBx v a b c)
 pt : Parts g m1 m2 m3 W
 rs : W.heap[rb]? = some (eBx (.slice none 0 0) 0 0 0)
 bel : Below W0.heap.size W0 W
 lt : W0.heap.size ≤ ge ∧ W0.heap.size ≤ r ∧ ge ≠ r ∧ rb ≠ r ∧ rb ≠ ge ∧ (g ≠ r ∧ g ≠ ge) ∧ (m1 ≠ r ∧ m1 ≠ ge) ∧ (m2 ≠ r ∧ m2 ≠ ge) ∧ m3 ≠ r ∧ m3 ≠ ge
section
variable {g m1 m2 m3 ge r rb : Nat} {v v' : Value} {l l' : List MetaS} {a b c a' b' c' : Int} {rest rest' : List Int} {bad bad' : Bool} {W0 W W' : World}
theorem PSt.below (h : PSt g m1 m2 m3 ge r rb v l a b c rest bad W0 W) (hb : Below W.heap.size W W') : PSt g m1 m2 m3 ge r rb v l a b c rest bad W0 W' :=
 ⟨(h.rd.keep hb).mono (fun k hk=>hk.1),Kd.R_below h.row hb,(hb.block _ (blk_lt h.bx)).trans h.bx,h.pt.below hb (Nat.le_refl _),(hb.block _ (blk_lt h.rs)).trans h.rs,below_then h.bel h.bel.size hb,h.lt⟩
theorem PSt.stays_pt (h : PSt g m1 m2 m3 ge r rb v l a b c rest bad W0 W) (hS : Stays (fun k=>k = r ∨ k = ge) W W') : Parts g m1 m2 m3 W' ∧ W'.heap[rb]? = some (eBx (.slice none 0 0) 0 0 0) ∧ Below W0.heap.size W0 W':=by
 obtain ⟨p1,p2,p3,p4⟩:=h.pt
 have hl:=h.lt
 refine ⟨⟨(hS.block _ (blk_lt p1) (by omega)).trans p1,(hS.block _ (blk_lt p2) (by omega)).trans p2,(hS.block _ (blk_lt p3) (by omega)).trans p3,(hS.block _ (blk_lt p4) (by omega)).trans p4⟩,(hS.block _ (blk_lt h.rs) (by omega)).trans h.rs,⟨hS.os.trans h.bel.os,hS.tape.trans h.bel.tape,hS.output.trans h.bel.output,Nat.le_trans h.bel.size hS.size,fun k hk=>(hS.block k (Nat.lt_of_lt_of_le hk h.bel.size) (by omega)).trans (h.bel.block k hk)⟩⟩
theorem PSt.num (h : PSt g m1 m2 m3 ge r rb v l a b c rest bad W0 W) (hS : Stays (fun k=>k = r ∨ k = ge) W W') (hR : Rd r (orNew (fun k=>k ≠ r ∧ k ≠ ge ∧ some k ≠ v.ownBlock) W) W' rest' bad') (hg : W'.heap[ge]? = some (eBx v a' b' c')) : PSt g m1 m2 m3 ge r rb v l a' b' c' rest' bad' W0 W':=by
 obtain ⟨q1,q2,q3⟩:=h.stays_pt hS
 have hr:=h.rd.lt
 have hge:=blk_lt h.bx
 have hv:=Kd.R_lt h.row
 exact ⟨hR.mono (fun k hk=>hk.elim (fun x=>x) (fun x=>⟨by omega,by omega,fun e=>by have:=hv k e.symm;omega⟩)),Kd.R_step h.row (fun k hk hlt=>hS.block k hlt (by omega)),hg,q1,q2,q3,h.lt⟩
theorem PSt.add {ok : Nat → Prop} (h : PSt g m1 m2 m3 ge r rb v l a b c rest bad W0 W) (hS : Stays (fun k=>k = r ∨ k = ge) W W') (hok : ∀ k,ok k → k ≠ r ∧ k ≠ ge) (hB : Beg W.heap.size r ge ok v' l' a b c rest' bad' W') : PSt g m1 m2 m3 ge r rb v' l' a b c rest' bad' W0 W':=by
 obtain ⟨q1,q2,q3⟩:=h.stays_pt hS
 have hr:=h.rd.lt
 have hge:=blk_lt h.bx
 have hbs:=h.bel.size
 exact ⟨hB.rd.mono (fun k hk=>⟨hk.1.elim (fun x=>(hok k x).1) (fun x=>by omega),hk.1.elim (fun x=>(hok k x).2) (fun x=>by omega),hk.2⟩),Kd.R_lower (Kd.R_mono (Kd.R_bound hB.row) (fun k hk=>⟨by have:=hk.2.1;omega,by have:=hk.2.1;omega⟩)) hbs,hB.bx,q1,q2,q3,h.lt⟩
end

set_option maxRecDepth 100000 in
set_option maxHeartbeats 8000000 in
theorem parse_cons (A0 : Option Addr) (c0 : Nat) (h : Int) (t : List Int) (r1 : List MetaS) (r2 r3 r4 r5 : Int) (w : World) (hr0 : Kd.C (Kd.int .u8) w A0 (h :: t).length (h :: t)) (hc0 : (h :: t).length ≤ c0) (hf : edit_Parse.f (h :: t) = some (r1,r2,r3,r4,r5)) :
  Calls Try.prog 13 #[.slice A0 (h :: t).length c0] w fun e w'=>∃ v0_ : Value,e = .returned (.tuple #[.agg #[v0_,.int .u64 r2,.int .u64 r3,.int .u64 r4],.int .i64 r5]) ∧ Kd.R k58 58 w' w.heap.size (fun _=>True) v0_ r1 ∧ Below w.heap.size w w':=by
 unfold edit_Parse.f at hf
 obtain ⟨⟨l,a,b,c,rest,bad⟩,hrun,hf⟩:=Option.bind_eq_some_iff.1 hf
 obtain ⟨⟨by_,er⟩,hby,hf⟩:=Option.bind_eq_some_iff.1 hf
 have HRUN:=Aside0.mk hrun
 have HBY:=Aside0.mk hby
 have HF:=Aside0.mk hf
 have HC:=Aside0.mk hr0
 obtain ⟨ad,e,hcc⟩:=(Kd.reads_of_C (d:=(0 : Int)) hr0).2.2 (by simp)
 subst e
 have HAD:=Aside0.mk hcc
 have hF0:=F_int hr0
 obtain ⟨A2,hA2⟩ : ∃ A1,A1 = (if c0 = (1 : Int).toNat then some ad else (some ad : Option Addr).map (·.add ((1 : Int).toNat * 1))):=⟨_,rfl⟩
 have hfr : Fb w (fun k=>k < w.heap.size) A2 t:=by
  refine Kd.F_imp hF0 (fun W' hC'=>?_)
  have:=Kd.C_drop (m:=(1 : Int).toNat) (c:=c0) hC' (by simp) hc0
  rw [hA2]
  exact this
 obtain ⟨i02,hi02,_,hsz02,_⟩:=info_parts info5
 have hcut:=cut_from (P:=Try.prog) 26 5 .i64 Try.underlying26 hi02 1 hsz02 (some ad) (h :: t).length c0 1 (by omega) (by simp;omega)
 rw [← hA2] at hcut
 obtain ⟨c2,hc2⟩ : ∃ c1,c1 = c0 - (1 : Int).toNat:=⟨_,rfl⟩
 rw [← hc2] at hcut
 rw [show (h :: t).length - (1 : Int).toNat = t.length by simp] at hcut
 have HFR:=Aside0.mk hfr
 have HC2 : Aside0 (t.length ≤ c2):=⟨by rw [hc2];simp at hc0 ⊢;omega⟩
 have HC0:=Aside0.mk hc0
 have hu:=Try.underlying25
 have hup:=Try.underlying64
 have hur:=Try.underlying69
 have hn0 : ((t.length + 1 : Nat) : Int) ≠ 0:=by omega
 simp only [List.length_cons] at hcut
 clear hr0 hc0 hf hrun hby hcc hF0 hA2 hfr hi02 hsz02 hc2
 go_enter Try.func13,Try.ntmps13
 go_wp2_with fail
 obtain ⟨W3,hW3⟩ : ∃ W,W = ((w.alloc (eBx (.slice none 0 0) 0 0 0)).alloc (eBx (.slice none 0 0) 0 0 0)).alloc (.cells #[.slice A2 t.length c2,.bool false] 69):=⟨_,rfl⟩
 rw [show ((w.alloc (.cells #[.slice none 0 0,.int .u64 0,.int .u64 0,.int .u64 0] 25)).alloc (.cells #[.slice none 0 0,.int .u64 0,.int .u64 0,.int .u64 0] 25)).alloc (.cells #[.slice A2 t.length c2,.bool false] 69) = W3 from hW3.symm]
 obtain ⟨ge,hge⟩ : ∃ x,x = w.heap.size + 1:=⟨_,rfl⟩
 obtain ⟨r,hr⟩ : ∃ x,x = w.heap.size + 1 + 1:=⟨_,rfl⟩
 have hB3 : Below w.heap.size w W3:=by rw [hW3];exact below_alloc (below_alloc (below_alloc (Below.refl _ _) _) _) _
 have hs3 : W3.heap.size = w.heap.size + 3:=by rw [hW3];simp
 have hbs : W3.heap[w.heap.size]? = some (eBx (.slice none 0 0) 0 0 0):=by
  rw [hW3]
  exact (Below.heap_alloc _ _ _ (by simp;omega)).trans ((Below.heap_alloc _ _ _ (by simp)).trans (World.alloc_heap_new w _))
 have hbe : W3.heap[ge]? = some (eBx (.slice none 0 0) 0 0 0):=by
  have h7:=World.alloc_heap_new (w.alloc (eBx (.slice none 0 0) 0 0 0)) (eBx (.slice none 0 0) 0 0 0)
  rw [World.size_alloc] at h7
  rw [hW3,hge]
  exact (Below.heap_alloc _ _ _ (by simp)).trans h7
 have hbr : W3.heap[r]? = some (.cells #[.slice A2 t.length c2,.bool false] 69):=by
  have h7:=World.alloc_heap_new ((w.alloc (eBx (.slice none 0 0) 0 0 0)).alloc (eBx (.slice none 0 0) 0 0 0)) (.cells #[.slice A2 t.length c2,.bool false] 69)
  rw [World.size_alloc,World.size_alloc] at h7
  rw [hW3,hr]
  exact h7
 rw [← hr,← hge]
 have HB3:=Aside0.mk hB3
 have HS3:=Aside0.mk hs3
 have HBS:=Aside0.mk hbs
 have HBE:=Aside0.mk hbe
 have HBR:=Aside0.mk hbr
 have HGE:=Aside0.mk hge
 have HRR:=Aside0.mk hr
 have h00 : w.cell? ad = some (.int .u8 h):=by
  have h0:=HAD.out 0 (by simp)
  simp only [List.getD_cons_zero] at h0
  simpa [Addr.add] using h0
 have H00:=Aside0.mk h00
 clear hB3 hs3 hbs hbe hbr hge hr hW3 h00 HAD
 go_wp2_with (go_at_call 32;refine (parts_calls _).mono ?_;rintro e w4 ⟨g,m1,m2,m3,rfl,hP,hgg,hd⟩;have HS4 : Aside0 (PSt g m1 m2 m3 ge r w.heap.size (.slice none ([] : List MetaS).length 0) [] 0 0 0 t false w w4):=⟨⟨⟨A2,c2,(hd.block _ (blk_lt HBR.out)).trans HBR.out,HC2.out,Kd.F_mono (Kd.F_below (Kd.F_below HFR.out HB3.out) hd) (fun k hk=>⟨by have:=HRR.out;omega,by have:=HGE.out;omega,by simp [Value.ownBlock]⟩)⟩,Kd.R_nil _ _ _ _ _,(hd.block _ (blk_lt HBE.out)).trans HBE.out,hP,(hd.block _ (blk_lt HBS.out)).trans HBS.out,below_then HB3.out HB3.out.size hd,by have h1:=HGE.out;have h2:=HRR.out;have h3:=HS3.out;omega⟩⟩;clear hP hgg hd)
 go_loopw [20] (fun v20 wr=>∃ (k : Nat) (l1 : List MetaS) (a1 b1 cc1 : Int) (rest1 : List Int) (bad1 : Bool) (A1 : Option Addr) (cp1 : Nat),k ≤ 4 ∧ v20 = .int .i64 k ∧ Aside0 (k = 0 → l1 = [] ∧ A1 = none ∧ cp1 = 0) ∧ Aside0 (runP h (4 - k) k (l1,a1,b1,cc1,rest1,bad1) = some (l,a,b,c,rest,bad)) ∧ Aside0 (PSt g m1 m2 m3 ge r w.heap.size (.slice A1 l1.length cp1) l1 a1 b1 cc1 rest1 bad1 w wr)) (fun v20 _=>4 - (intOf v20).toNat)
 case atStart=>exact ⟨0,[],0,0,0,t,false,none,0,by omega,rfl,⟨fun _=>⟨rfl,rfl,rfl⟩⟩,HRUN,HS4⟩
 case round =>
  obtain ⟨k,l1,a1,b1,cc1,rest1,bad1,A1,cp1,hk,rfl,HK0,HRN,HS⟩:=hrel
  clear HS4 HRUN HBR HBE HBS HFR
  by_cases hlt : k < 4
  ·have hk' : k = 0 ∨ k = 1 ∨ k = 2 ∨ k = 3:=by omega
   rcases hk' with rfl|rfl|rfl|rfl
   ·have hP:=HS.out.pt
    have hx0 : wr.cell? ⟨g,0,none⟩ = some (f0 63):=(blk_cell hP.1 0).trans rfl
    have hx1 : wr.cell? ⟨g,1,none⟩ = some (f0 64):=(blk_cell hP.1 1).trans rfl
    have hx2 : wr.cell? ⟨g,2,none⟩ = some (f0 67):=(blk_cell hP.1 2).trans rfl
    have hBa : Below wr.heap.size wr (wr.alloc (.cells #[f0 63,f0 64,f0 67] 64)):=below_alloc (Below.refl _ _) _
    have hcell : (wr.alloc (.cells #[f0 63,f0 64,f0 67] 64)).cell? ad = some (.int .u8 h):=pw_cell_below (below_then HS.out.bel HS.out.bel.size hBa) H00.out
    have HSA:=Aside0.mk (HS.out.below hBa)
    clear hP hBa
    have h9 : (stepP h 0 (l1,a1,b1,cc1,rest1,bad1)).bind (fun t=>runP h 3 1 t) = some (l,a,b,c,rest,bad):=HRN.out
    by_cases hb : (bits .and .u8 h 1 == 1) = true
    ·rw [show stepP h 0 (l1,a1,b1,cc1,rest1,bad1) = ((addT rest1 bad1).bind fun t=>some (t.1,a1,b1,cc1,t.2.1,t.2.2)) from if_pos (show bitB h 0 = true from hb)] at h9
     obtain ⟨s9,h8,h9⟩:=Option.bind_eq_some_iff.1 h9
     obtain ⟨⟨z1,z2,z3⟩,hz,h8⟩:=Option.bind_eq_some_iff.1 h8
     obtain rfl:=Option.some.inj h8
     have H9:=Aside0.mk h9
     have HZ:=Aside0.mk hz
     clear h9 h8 hz
     obtain ⟨rfl,rfl,rfl⟩:=HK0.out rfl
     go_wp2_with (go_at_call 67;refine (takeA_calls ge r a1 b1 cc1 rest1 bad1 _ (fun k hk=>⟨hk.1,hk.2.1⟩) HSA.out.lt.2.2.1 _ HSA.out.rd HSA.out.bx z1 z2 z3 HZ.out).mono ?_;rintro e w5 ⟨v5,⟨u5,rfl⟩,hS5,hB5⟩;obtain ⟨A5,c5,e5⟩:=Kd.R_slice hB5.row;subst e5;have HS5:=Aside0.mk (HSA.out.add hS5 (fun k hk=>⟨hk.1,hk.2.1⟩) hB5);clear hS5 hB5 hcell)
     refine ⟨⟨1,z1,a1,b1,cc1,z2,z3,A5,c5,by omega,rfl,⟨by omega⟩,⟨H9.out⟩,HS5⟩,by decide⟩
    ·rw [show stepP h 0 (l1,a1,b1,cc1,rest1,bad1) = some (l1,a1,b1,cc1,rest1,bad1) from if_neg (show ¬ bitB h 0 = true from hb)] at h9
     have hb:=Bool.eq_false_iff.2 hb
     have H9:=Aside0.mk h9
     clear h9
     go_wp2
     refine ⟨⟨1,l1,a1,b1,cc1,rest1,bad1,A1,cp1,by omega,rfl,⟨by omega⟩,⟨H9.out⟩,HSA⟩,by decide⟩

   ·have hP:=HS.out.pt
    have hx0 : wr.cell? ⟨g,3,none⟩ = some (fv 70 m1):=(blk_cell hP.1 3).trans rfl
    have hx1 : wr.cell? ⟨g,4,none⟩ = some (fv 71 m1):=(blk_cell hP.1 4).trans rfl
    have hx2 : wr.cell? ⟨g,5,none⟩ = some (fv 72 m1):=(blk_cell hP.1 5).trans rfl
    have hBa : Below wr.heap.size wr (wr.alloc (.cells #[fv 70 m1,fv 71 m1,fv 72 m1] 64)):=below_alloc (Below.refl _ _) _
    have hcell : (wr.alloc (.cells #[fv 70 m1,fv 71 m1,fv 72 m1] 64)).cell? ad = some (.int .u8 h):=pw_cell_below (below_then HS.out.bel HS.out.bel.size hBa) H00.out
    have HSA:=Aside0.mk (HS.out.below hBa)
    clear hP hBa
    have h9 : (stepP h 1 (l1,a1,b1,cc1,rest1,bad1)).bind (fun t=>runP h 2 2 t) = some (l,a,b,c,rest,bad):=HRN.out
    by_cases hb : (bits .and .u8 (h / 2) 1 == 1) = true
    ·rw [show stepP h 1 (l1,a1,b1,cc1,rest1,bad1) = ((nums_Take.f rest1).bind fun t=>some (l1,t.1,b1,cc1,t.2.1,bad1 || !t.2.2)) from if_pos (show bitB h 1 = true from hb)] at h9
     obtain ⟨s9,h8,h9⟩:=Option.bind_eq_some_iff.1 h9
     obtain ⟨⟨z1,z2,z3⟩,hz,h8⟩:=Option.bind_eq_some_iff.1 h8
     obtain rfl:=Option.some.inj h8
     have H9:=Aside0.mk h9
     have HZ:=Aside0.mk hz
     clear h9 h8 hz
     go_wp2_with (go_at_call 72;refine (take1_calls m1 ge r _ a1 b1 cc1 rest1 bad1 _ (fun k hk=>⟨hk.1,hk.2.1⟩) HSA.out.lt.2.2.1 (by have:=HSA.out.lt;omega) _ HSA.out.rd HSA.out.bx HSA.out.pt.2.1 z1 z2 z3 HZ.out).mono ?_;rintro e w5 ⟨⟨u5,rfl⟩,hS5,hR5,hg5⟩;have HS5:=Aside0.mk (HSA.out.num hS5 hR5 hg5);clear hS5 hR5 hg5 hcell)
     refine ⟨⟨2,l1,z1,b1,cc1,z2,_,A1,cp1,by omega,rfl,⟨by omega⟩,⟨H9.out⟩,HS5⟩,by decide⟩
    ·rw [show stepP h 1 (l1,a1,b1,cc1,rest1,bad1) = some (l1,a1,b1,cc1,rest1,bad1) from if_neg (show ¬ bitB h 1 = true from hb)] at h9
     have hb:=Bool.eq_false_iff.2 hb
     have H9:=Aside0.mk h9
     clear h9
     go_wp2
     refine ⟨⟨2,l1,a1,b1,cc1,rest1,bad1,A1,cp1,by omega,rfl,⟨by omega⟩,⟨H9.out⟩,HSA⟩,by decide⟩

   ·have hP:=HS.out.pt
    have hx0 : wr.cell? ⟨g,6,none⟩ = some (fv 70 m2):=(blk_cell hP.1 6).trans rfl
    have hx1 : wr.cell? ⟨g,7,none⟩ = some (fv 71 m2):=(blk_cell hP.1 7).trans rfl
    have hx2 : wr.cell? ⟨g,8,none⟩ = some (fv 72 m2):=(blk_cell hP.1 8).trans rfl
    have hBa : Below wr.heap.size wr (wr.alloc (.cells #[fv 70 m2,fv 71 m2,fv 72 m2] 64)):=below_alloc (Below.refl _ _) _
    have hcell : (wr.alloc (.cells #[fv 70 m2,fv 71 m2,fv 72 m2] 64)).cell? ad = some (.int .u8 h):=pw_cell_below (below_then HS.out.bel HS.out.bel.size hBa) H00.out
    have HSA:=Aside0.mk (HS.out.below hBa)
    clear hP hBa
    have h9 : (stepP h 2 (l1,a1,b1,cc1,rest1,bad1)).bind (fun t=>runP h 1 3 t) = some (l,a,b,c,rest,bad):=HRN.out
    by_cases hb : (bits .and .u8 (h / 4) 1 == 1) = true
    ·rw [show stepP h 2 (l1,a1,b1,cc1,rest1,bad1) = ((nums_Take.f rest1).bind fun t=>some (l1,a1,t.1,cc1,t.2.1,bad1 || !t.2.2)) from if_pos (show bitB h 2 = true from hb)] at h9
     obtain ⟨s9,h8,h9⟩:=Option.bind_eq_some_iff.1 h9
     obtain ⟨⟨z1,z2,z3⟩,hz,h8⟩:=Option.bind_eq_some_iff.1 h8
     obtain rfl:=Option.some.inj h8
     have H9:=Aside0.mk h9
     have HZ:=Aside0.mk hz
     clear h9 h8 hz
     go_wp2_with (go_at_call 72;refine (take2_calls m2 ge r _ a1 b1 cc1 rest1 bad1 _ (fun k hk=>⟨hk.1,hk.2.1⟩) HSA.out.lt.2.2.1 (by have:=HSA.out.lt;omega) _ HSA.out.rd HSA.out.bx HSA.out.pt.2.2.1 z1 z2 z3 HZ.out).mono ?_;rintro e w5 ⟨⟨u5,rfl⟩,hS5,hR5,hg5⟩;have HS5:=Aside0.mk (HSA.out.num hS5 hR5 hg5);clear hS5 hR5 hg5 hcell)
     refine ⟨⟨3,l1,a1,z1,cc1,z2,_,A1,cp1,by omega,rfl,⟨by omega⟩,⟨H9.out⟩,HS5⟩,by decide⟩
    ·rw [show stepP h 2 (l1,a1,b1,cc1,rest1,bad1) = some (l1,a1,b1,cc1,rest1,bad1) from if_neg (show ¬ bitB h 2 = true from hb)] at h9
     have hb:=Bool.eq_false_iff.2 hb
     have H9:=Aside0.mk h9
     clear h9
     go_wp2
     refine ⟨⟨3,l1,a1,b1,cc1,rest1,bad1,A1,cp1,by omega,rfl,⟨by omega⟩,⟨H9.out⟩,HSA⟩,by decide⟩

   ·have hP:=HS.out.pt
    have hx0 : wr.cell? ⟨g,9,none⟩ = some (fv 70 m3):=(blk_cell hP.1 9).trans rfl
    have hx1 : wr.cell? ⟨g,10,none⟩ = some (fv 71 m3):=(blk_cell hP.1 10).trans rfl
    have hx2 : wr.cell? ⟨g,11,none⟩ = some (fv 72 m3):=(blk_cell hP.1 11).trans rfl
    have hBa : Below wr.heap.size wr (wr.alloc (.cells #[fv 70 m3,fv 71 m3,fv 72 m3] 64)):=below_alloc (Below.refl _ _) _
    have hcell : (wr.alloc (.cells #[fv 70 m3,fv 71 m3,fv 72 m3] 64)).cell? ad = some (.int .u8 h):=pw_cell_below (below_then HS.out.bel HS.out.bel.size hBa) H00.out
    have HSA:=Aside0.mk (HS.out.below hBa)
    clear hP hBa
    have h9 : (stepP h 3 (l1,a1,b1,cc1,rest1,bad1)).bind (fun t=>runP h 0 4 t) = some (l,a,b,c,rest,bad):=HRN.out
    by_cases hb : (bits .and .u8 (h / 8) 1 == 1) = true
    ·rw [show stepP h 3 (l1,a1,b1,cc1,rest1,bad1) = ((nums_Take.f rest1).bind fun t=>some (l1,a1,b1,t.1,t.2.1,bad1 || !t.2.2)) from if_pos (show bitB h 3 = true from hb)] at h9
     obtain ⟨s9,h8,h9⟩:=Option.bind_eq_some_iff.1 h9
     obtain ⟨⟨z1,z2,z3⟩,hz,h8⟩:=Option.bind_eq_some_iff.1 h8
     obtain rfl:=Option.some.inj h8
     have H9:=Aside0.mk h9
     have HZ:=Aside0.mk hz
     clear h9 h8 hz
     go_wp2_with (go_at_call 72;refine (take3_calls m3 ge r _ a1 b1 cc1 rest1 bad1 _ (fun k hk=>⟨hk.1,hk.2.1⟩) HSA.out.lt.2.2.1 (by have:=HSA.out.lt;omega) _ HSA.out.rd HSA.out.bx HSA.out.pt.2.2.2 z1 z2 z3 HZ.out).mono ?_;rintro e w5 ⟨⟨u5,rfl⟩,hS5,hR5,hg5⟩;have HS5:=Aside0.mk (HSA.out.num hS5 hR5 hg5);clear hS5 hR5 hg5 hcell)
     refine ⟨⟨4,l1,a1,b1,z1,z2,_,A1,cp1,by omega,rfl,⟨by omega⟩,⟨H9.out⟩,HS5⟩,by decide⟩
    ·rw [show stepP h 3 (l1,a1,b1,cc1,rest1,bad1) = some (l1,a1,b1,cc1,rest1,bad1) from if_neg (show ¬ bitB h 3 = true from hb)] at h9
     have hb:=Bool.eq_false_iff.2 hb
     have H9:=Aside0.mk h9
     clear h9
     go_wp2
     refine ⟨⟨4,l1,a1,b1,cc1,rest1,bad1,A1,cp1,by omega,rfl,⟨by omega⟩,⟨H9.out⟩,HSA⟩,by decide⟩
  ·obtain rfl : k = 4:=by omega
   have h9 : some (l1,a1,b1,cc1,rest1,bad1) = some (l,a,b,c,rest,bad):=HRN.out
   simp only [Option.some.injEq,Prod.mk.injEq] at h9
   obtain ⟨rfl,rfl,rfl,rfl,rfl,rfl⟩:=h9
   have hbx:=HS.out.bx
   have hy0 : wr.cell? ⟨ge,0,none⟩ = some (.slice A1 l1.length cp1):=(blk_cell hbx 0).trans rfl
   have hy1 : wr.cell? ⟨ge,1,none⟩ = some (.int .u64 a1):=(blk_cell hbx 1).trans rfl
   have hy2 : wr.cell? ⟨ge,2,none⟩ = some (.int .u64 b1):=(blk_cell hbx 2).trans rfl
   have hy3 : wr.cell? ⟨ge,3,none⟩ = some (.int .u64 cc1):=(blk_cell hbx 3).trans rfl
   have her : er = 0 ∨ er = 90:=by
    have h8:=HBY.out
    unfold edit_Bytes.f at h8
    by_cases h7 : WfE l1 a1 b1 cc1
    ·rw [if_pos h7] at h8
     have h8:=Option.some.inj h8
     by_cases h6 : rightB l1 a1 b1 cc1 = true
     ·rw [if_pos h6] at h8
      exact .inl (congrArg Prod.snd h8).symm
     ·rw [if_neg h6] at h8
      exact .inr (congrArg Prod.snd h8).symm
    ·rw [if_neg h7] at h8
     cases h8
   have hff : (if bad1 = true ∨ er ≠ 0 ∨ sameB by_ (h :: t) = false then some (([],0,0,0,90) : List MetaS × Int × Int × Int × Int) else some (l1,a1,b1,cc1,0)) = some (r1,r2,r3,r4,r5):=HF.out
   have HFF:=Aside0.mk hff
   clear hbx hff HF
   by_cases hbad : bad1 = true ∨ er ≠ 0
   ·have hff:=HFF.out
    rw [if_pos (hbad.elim .inl (fun x=>.inr (.inl x)))] at hff
    simp only [Option.some.injEq,Prod.mk.injEq] at hff
    obtain ⟨rfl,rfl,rfl,rfl,rfl⟩:=hff
    have hcs : (bad1 = true) ∨ (bad1 = false ∧ er = 90):=by
     cases bad1 with
     | true=>exact .inl rfl
     | false=>exact .inr ⟨rfl,by rcases her with h1|h1;(· exact absurd h1 (by simpa using hbad));exact h1⟩
    clear hbad her HFF
    rcases hcs with rfl|⟨rfl,rfl⟩
    all_goals
     go_wp2_with (go_at_call 11;refine (edit_Bytes.calls A1 cp1 l1 a1 b1 cc1 by_ _ wr (Kd.R_reads' HS.out.row).2.2 (Kd.R_reads' HS.out.row).2.1 HBY.out).mono ?_;rintro e w6 ⟨v6,rfl,hv6,hd6⟩;have HS6:=Aside0.mk (HS.out.below hd6);obtain ⟨A6,c6,e6⟩:=Kd.R_slice hv6;subst e6;have HV6:=Aside0.mk hv6;have HRR6:=Aside0.mk (below_then HS.out.bel HS.out.bel.size hd6);clear hv6 hd6 hy0 hy1 hy2 hy3;obtain ⟨A7,c7,hb7,_,_⟩:=HS6.out.rd;have hr1:=(blk_cell hb7 1).trans rfl;have hz:=HS6.out.rs;have hz0:=(blk_cell hz 0).trans rfl;have hz1:=(blk_cell hz 1).trans rfl;have hz2:=(blk_cell hz 2).trans rfl;have hz3:=(blk_cell hz 3).trans rfl;have hg0:=blk_frozen hz 0;have hg1:=blk_frozen hz 1;have hg2:=blk_frozen hz 2;have hg3:=blk_frozen hz 3;clear hb7 hz)
     refine bodyPost_ret (results_ct rfl _ _ w.heap.size 25 #[.slice none 0 0,.int .u64 0,.int .u64 0,.int .u64 0] (0,0) _ rfl (blk_put (cs':=#[.slice none 0 0,.int .u64 0,.int .u64 0,.int .u64 0]) (blk_put (cs':=#[.slice none 0 0,.int .u64 0,.int .u64 0,.int .u64 0]) (blk_put (cs':=#[.slice none 0 0,.int .u64 0,.int .u64 0,.int .u64 0]) (blk_put (cs':=#[.slice none 0 0,.int .u64 0,.int .u64 0,.int .u64 0]) HS6.out.rs 0 _ rfl) 1 _ rfl) 2 _ rfl) 3 _ rfl) hu rfl (by kernel_rfl)) rfl ?_
     exact ⟨_,rfl,Kd.R_nil _ _ _ _ _,(((HS6.out.bel.setCell (p:=⟨w.heap.size,0,none⟩) (Nat.le_refl _) _).setCell (p:=⟨w.heap.size,1,none⟩) (Nat.le_refl _) _).setCell (p:=⟨w.heap.size,2,none⟩) (Nat.le_refl _) _).setCell (p:=⟨w.heap.size,3,none⟩) (Nat.le_refl _) _⟩
   ·have hbf : bad1 = false:=by cases bad1 with|true=>exact absurd (.inl rfl) hbad|false=>rfl
    have he0 : er = 0:=by rcases her with h1|h1;(· exact h1);exact absurd (.inr (by rw [h1];decide)) hbad
    subst hbf
    subst he0
    clear hbad her
    have hff:=HFF.out
    cases hsm : sameB by_ (h :: t) with
    | false =>
     rw [if_pos (.inr (.inr hsm))] at hff
     simp only [Option.some.injEq,Prod.mk.injEq] at hff
     obtain ⟨rfl,rfl,rfl,rfl,rfl⟩:=hff
     have HSM:=Aside0.mk hsm
     clear hsm HFF
     go_wp2_with (first
      | (go_at_call 11;refine (edit_Bytes.calls A1 cp1 l1 a1 b1 cc1 by_ _ wr (Kd.R_reads' HS.out.row).2.2 (Kd.R_reads' HS.out.row).2.1 HBY.out).mono ?_;rintro e w6 ⟨v6,rfl,hv6,hd6⟩;have HS6:=Aside0.mk (HS.out.below hd6);obtain ⟨A6,c6,e6⟩:=Kd.R_slice hv6;subst e6;have HV6:=Aside0.mk hv6;have HRR6:=Aside0.mk (below_then HS.out.bel HS.out.bel.size hd6);clear hv6 hd6 hy0 hy1 hy2 hy3;obtain ⟨A7,c7,hb7,_,_⟩:=HS6.out.rd;have hr1:=(blk_cell hb7 1).trans rfl;have hz:=HS6.out.rs;have hz0:=(blk_cell hz 0).trans rfl;have hz1:=(blk_cell hz 1).trans rfl;have hz2:=(blk_cell hz 2).trans rfl;have hz3:=(blk_cell hz 3).trans rfl;have hg0:=blk_frozen hz 0;have hg1:=blk_frozen hz 1;have hg2:=blk_frozen hz 2;have hg3:=blk_frozen hz 3;clear hb7 hz)
      | (go_at_call 35;refine (equal_calls A6 c6 by_ (some ad) c0 (h :: t) w6 (Kd.R_reads' HV6.out).2.2 (Kd.R_reads' HV6.out).2.1 (Kd.C_below HC.out HRR6.out) HC0.out).mono ?_;rw [HSM.out];rintro e w8 ⟨rfl,hd8⟩;have hS8:=HS6.out.below hd8;clear hz0 hz1 hz2 hz3 hg0 hg1 hg2 hg3 hr1;have hz:=hS8.rs;have hz0:=(blk_cell hz 0).trans rfl;have hz1:=(blk_cell hz 1).trans rfl;have hz2:=(blk_cell hz 2).trans rfl;have hz3:=(blk_cell hz 3).trans rfl;have hg0:=blk_frozen hz 0;have hg1:=blk_frozen hz 1;have hg2:=blk_frozen hz 2;have hg3:=blk_frozen hz 3;have HS8:=Aside0.mk hS8;clear hz hS8 hd8))
     refine bodyPost_ret (results_ct rfl _ _ w.heap.size 25 #[.slice none 0 0,.int .u64 0,.int .u64 0,.int .u64 0] (0,0) _ rfl (blk_put (cs':=#[.slice none 0 0,.int .u64 0,.int .u64 0,.int .u64 0]) (blk_put (cs':=#[.slice none 0 0,.int .u64 0,.int .u64 0,.int .u64 0]) (blk_put (cs':=#[.slice none 0 0,.int .u64 0,.int .u64 0,.int .u64 0]) (blk_put (cs':=#[.slice none 0 0,.int .u64 0,.int .u64 0,.int .u64 0]) HS8.out.rs 0 _ rfl) 1 _ rfl) 2 _ rfl) 3 _ rfl) hu rfl (by kernel_rfl)) rfl ?_
     exact ⟨_,rfl,Kd.R_nil _ _ _ _ _,(((HS8.out.bel.setCell (p:=⟨w.heap.size,0,none⟩) (Nat.le_refl _) _).setCell (p:=⟨w.heap.size,1,none⟩) (Nat.le_refl _) _).setCell (p:=⟨w.heap.size,2,none⟩) (Nat.le_refl _) _).setCell (p:=⟨w.heap.size,3,none⟩) (Nat.le_refl _) _⟩
    | true =>
     rw [if_neg (by rintro (h1|h1|h1);(· cases h1);(· exact h1 rfl);rw [hsm] at h1;cases h1)] at hff
     simp only [Option.some.injEq,Prod.mk.injEq] at hff
     obtain ⟨rfl,rfl,rfl,rfl,rfl⟩:=hff
     have HSM:=Aside0.mk hsm
     clear hsm HFF
     go_wp2_with (first
      | (go_at_call 11;refine (edit_Bytes.calls A1 cp1 l1 a1 b1 cc1 by_ _ wr (Kd.R_reads' HS.out.row).2.2 (Kd.R_reads' HS.out.row).2.1 HBY.out).mono ?_;rintro e w6 ⟨v6,rfl,hv6,hd6⟩;have HS6:=Aside0.mk (HS.out.below hd6);obtain ⟨A6,c6,e6⟩:=Kd.R_slice hv6;subst e6;have HV6:=Aside0.mk hv6;have HRR6:=Aside0.mk (below_then HS.out.bel HS.out.bel.size hd6);clear hv6 hd6 hy0 hy1 hy2 hy3;obtain ⟨A7,c7,hb7,_,_⟩:=HS6.out.rd;have hr1:=(blk_cell hb7 1).trans rfl;have hz:=HS6.out.rs;have hz0:=(blk_cell hz 0).trans rfl;have hz1:=(blk_cell hz 1).trans rfl;have hz2:=(blk_cell hz 2).trans rfl;have hz3:=(blk_cell hz 3).trans rfl;have hg0:=blk_frozen hz 0;have hg1:=blk_frozen hz 1;have hg2:=blk_frozen hz 2;have hg3:=blk_frozen hz 3;clear hb7 hz)
      | (go_at_call 35;refine (equal_calls A6 c6 by_ (some ad) c0 (h :: t) w6 (Kd.R_reads' HV6.out).2.2 (Kd.R_reads' HV6.out).2.1 (Kd.C_below HC.out HRR6.out) HC0.out).mono ?_;rw [HSM.out];rintro e w8 ⟨rfl,hd8⟩;have hS8:=HS6.out.below hd8;clear hz0 hz1 hz2 hz3 hg0 hg1 hg2 hg3 hr1;have hz:=hS8.rs;have hz0:=(blk_cell hz 0).trans rfl;have hz1:=(blk_cell hz 1).trans rfl;have hz2:=(blk_cell hz 2).trans rfl;have hz3:=(blk_cell hz 3).trans rfl;have hg0:=blk_frozen hz 0;have hg1:=blk_frozen hz 1;have hg2:=blk_frozen hz 2;have hg3:=blk_frozen hz 3;have hx:=hS8.bx;have hy0:=(blk_cell hx 0).trans rfl;have hy1:=(blk_cell hx 1).trans rfl;have hy2:=(blk_cell hx 2).trans rfl;have hy3:=(blk_cell hx 3).trans rfl;have hne : (ge = w.heap.size) = False:=eq_false (by have:=HGE.out;omega);have HS8:=Aside0.mk hS8;clear hz hS8 hd8 hx))
     refine bodyPost_ret (results_ct rfl _ _ w.heap.size 25 #[.slice A1 l1.length cp1,.int .u64 a1,.int .u64 b1,.int .u64 cc1] (0,0) _ rfl (blk_put (cs':=#[.slice A1 l1.length cp1,.int .u64 a1,.int .u64 b1,.int .u64 cc1]) (blk_put (cs':=#[.slice A1 l1.length cp1,.int .u64 a1,.int .u64 b1,.int .u64 0]) (blk_put (cs':=#[.slice A1 l1.length cp1,.int .u64 a1,.int .u64 0,.int .u64 0]) (blk_put (cs':=#[.slice A1 l1.length cp1,.int .u64 0,.int .u64 0,.int .u64 0]) HS8.out.rs 0 _ rfl) 1 _ rfl) 2 _ rfl) 3 _ rfl) hu rfl (by kernel_rfl)) rfl ?_
     exact ⟨_,rfl,Kd.R_mono (Kd.R_far (p:=⟨w.heap.size,3,none⟩) (Kd.R_far (p:=⟨w.heap.size,2,none⟩) (Kd.R_far (p:=⟨w.heap.size,1,none⟩) (Kd.R_far (p:=⟨w.heap.size,0,none⟩) (Kd.R_types HS8.out.row HS8.out.rs (by decide)) (fun k hk=>hk.2) _) (fun k hk=>hk.2) _) (fun k hk=>hk.2) _) (fun k hk=>hk.2) _) (fun _ _=>trivial),(((HS8.out.bel.setCell (p:=⟨w.heap.size,0,none⟩) (Nat.le_refl _) _).setCell (p:=⟨w.heap.size,1,none⟩) (Nat.le_refl _) _).setCell (p:=⟨w.heap.size,2,none⟩) (Nat.le_refl _) _).setCell (p:=⟨w.heap.size,3,none⟩) (Nat.le_refl _) _⟩

theorem edit_Parse.calls (A0 : Option Addr) (c0 : Nat) (l0 : List Int) (r1 : List MetaS) (r2 r3 r4 r5 : Int) (w : World) (hr0 : Kd.C (Kd.int .u8) w A0 l0.length l0) (hc0 : l0.length ≤ c0) (hf : edit_Parse.f l0 = some (r1,r2,r3,r4,r5)) :
  Calls Try.prog 13 #[.slice A0 l0.length c0] w fun e w'=>∃ v0_ : Value,e = .returned (.tuple #[.agg #[v0_,.int .u64 r2,.int .u64 r3,.int .u64 r4],.int .i64 r5]) ∧ Kd.R k58 58 w' w.heap.size (fun _=>True) v0_ r1 ∧ Below w.heap.size w w':=by
 cases l0 with
 | cons h t=>exact parse_cons A0 c0 h t r1 r2 r3 r4 r5 w hr0 hc0 hf
 | nil =>
  unfold edit_Parse.f at hf
  simp only [Option.some.injEq,Prod.mk.injEq] at hf
  obtain ⟨rfl,rfl,rfl,rfl,rfl⟩:=hf
  have hu:=Try.underlying25
  clear hr0 hc0
  go_enter Try.func13,Try.ntmps13
  go_wp2
  refine bodyPost_ret (results_ct rfl _ _ w.heap.size 25 #[.slice none 0 0,.int .u64 0,.int .u64 0,.int .u64 0] (0,0) _ rfl (World.alloc_heap_new w _) hu rfl (by kernel_rfl)) rfl ?_
  exact ⟨_,rfl,Kd.R_nil _ _ _ _ _,below_alloc (Below.refl _ _) _⟩
end Go.Proofs.YtcagajobpnpicaaG

end

section
set_option linter.unusedVariables false
set_option linter.unusedSimpArgs false
namespace Go.Proofs.YtcagajobpnpicaaG
open Go Go.RowKit Go.Proofs.YtcagajobpnpicaaR Go.Proofs.YtcagajobpnpicaaL Go.Proofs.Ytcagajobpnpicaa.P Go.Proofs.YtcagajobpnpicaaW.PrintWords Go.Proofs.YtcagajobpnpicaaW.PrintMore
attribute [local go_sem] Oper.semAt_some

def awM : MetaS:=⟨2,48,⟨#[97]⟩,⟨#[99]⟩⟩
theorem vint_at {x : Nat} (h : x ≤ 127) : vint x = [(x : Int)]:=by rw [vint,dif_neg (by omega)]
theorem aw_wf : WfE [awM] 3 9 0 ∧ WfE [] 3 9 0 ∧ WfE [] 2 0 0 ∧ WfE [] 0 0 0:=by decide
theorem aw_by1 : edit_Bytes.f [] 3 9 0 = some ([6,3,9],0):=by
 unfold edit_Bytes.f
 rw [if_pos aw_wf.2.1,if_pos (show rightB [] 3 9 0 = true by kernel_rfl),formE,bodyF,numF,numF,numF,if_pos (by decide),if_pos (by decide),if_neg (by decide)]
 show some ((headF [] 3 9 0 :: (addF [] ++ (vint 3 ++ (vint 9 ++ [])))),(0 : Int)) = _
 rw [vint_at (x:=3) (by omega),vint_at (x:=9) (by omega)]
 rfl
theorem aw_by2 : edit_Bytes.f [awM] 3 9 0 = some ([7,1,2,48,1,97,1,99,3,9],0):=by
 unfold edit_Bytes.f
 rw [if_pos aw_wf.1,if_pos (show rightB [awM] 3 9 0 = true by kernel_rfl),formE,bodyF,numF,numF,numF,if_pos (by decide),if_pos (by decide),if_neg (by decide),addF,if_pos (by decide)]
 show some ((headF [awM] 3 9 0 :: ((vint 1 ++ ((vint 2 ++ (vint 48 ++ (vint 1 ++ (bytesOf awM.f2 ++ (vint 1 ++ bytesOf awM.f3))))) ++ [])) ++ (vint 3 ++ (vint 9 ++ [])))),(0 : Int)) = _
 rw [vint_at (x:=1) (by omega),vint_at (x:=2) (by omega),vint_at (x:=48) (by omega),vint_at (x:=3) (by omega),vint_at (x:=9) (by omega)]
 rfl
theorem aw_ap1 : edit_Apply.f [] 0 0 0 [awM] 3 9 0 = some ([awM],3,9,0,0):=by
 unfold edit_Apply.f
 rw [if_pos ⟨aw_wf.1,by decide⟩,if_pos (show okB [] 0 0 0 [awM] 3 9 0 = true by kernel_rfl)]
 rfl
theorem aw_ap2 : edit_Apply.f [awM] 3 9 0 [awM] 3 9 0 = some ([awM],3,9,0,90):=by
 unfold edit_Apply.f
 rw [if_pos ⟨aw_wf.1,by decide⟩,show okB [awM] 3 9 0 [awM] 3 9 0 = false by kernel_rfl,if_neg (by decide)]
theorem aw_ap3 : edit_Apply.f [awM] 3 9 0 [] 2 0 0 = some ([awM],3,9,0,90):=by
 unfold edit_Apply.f
 rw [if_pos ⟨aw_wf.2.2.1,by decide⟩,show okB [awM] 3 9 0 [] 2 0 0 = false by kernel_rfl,if_neg (by decide)]
theorem aw_zero : edit_Bytes.f [] 0 0 0 = some ([],90):=by
 unfold edit_Bytes.f
 rw [if_pos aw_wf.2.2.2,show rightB [] 0 0 0 = false by kernel_rfl,if_neg (by decide)]
theorem aw_pa1 : edit_Parse.f [0] = some ([],0,0,0,90):=by
 have h1 : runP 0 4 0 ([],0,0,0,[],false) = some ([],0,0,0,[],false):=by kernel_rfl
 unfold edit_Parse.f
 dsimp only
 rw [h1,Option.bind_some,aw_zero,Option.bind_some,if_pos (.inr (.inl (by decide)))]
theorem aw_pa2 : edit_Parse.f [2,0] = some ([],0,0,0,90):=by
 have h1 : runP 2 4 0 ([],0,0,0,[0],false) = some ([],0,0,0,[],false):=by kernel_rfl
 unfold edit_Parse.f
 dsimp only
 rw [h1,Option.bind_some,aw_zero,Option.bind_some,if_pos (.inr (.inl (by decide)))]
def ratlinelaw09_awake.f : Option Bool:=some true
theorem R_bytes (l : List Int) (W : World) (base : Nat) (hb : base ≤ W.heap.size) (hl : l.length ≤ 1000) : Kd.R (Kd.int .u8) 5 (W.alloc (.cells (l.map (Value.int .u8)).toArray 5)) base (fun _=>True) (.slice (some ⟨W.heap.size,0,none⟩) l.length l.length) l:=by
 refine ⟨fun k hk=>trivial,l.map (Value.int .u8),?_,⟨by rw [List.length_map];exact (Nat.mul_one _).symm,fun j p hj=>?_⟩⟩
 ·have h2:=World.ownsRow_lit (base:=base) (e:=5) (size:=(Kd.int .u8).sz) W (l.map (Value.int .u8)).toArray l.length hb (by simp only [maxLen];omega) (by rw [List.size_toArray,List.length_map];exact (Nat.mul_one _).symm)
  exact h2
 ·have hjl : j < l.length:=by
   rcases Nat.lt_or_ge j l.length with h|h
   ·exact h
   ·rw [List.getElem?_eq_none h] at hj;cases hj
  rw [List.getElem?_eq_getElem hjl] at hj
  obtain rfl:=Option.some.inj hj
  show ((l.map (Value.int .u8)).drop (j * 1)).take 1 = [Value.int .u8 l[j]]
  rw [Nat.mul_one,List.drop_eq_getElem_cons (by rw [List.length_map];exact hjl)]
  simp
theorem C_bytes (l : List Int) (W : World) (hl : l.length ≤ 1000) : Kd.C (Kd.int .u8) (W.alloc (.cells (l.map (Value.int .u8)).toArray 5)) (some ⟨W.heap.size,0,none⟩) l.length l:=(Kd.R_reads' (R_bytes l W 0 (Nat.zero_le _) hl)).2.2
theorem R_note (W : World) (base : Nat) (hb : base ≤ W.heap.size) : Kd.R k58 58 (W.alloc (.cells #[.int .u64 2,.int .u64 48,.string ⟨#[97]⟩,.string ⟨#[99]⟩] 58)) base (fun _=>True) (.slice (some ⟨W.heap.size,0,none⟩) 1 1) [awM]:=by
 refine ⟨fun k hk=>trivial,[.int .u64 2,.int .u64 48,.string ⟨#[97]⟩,.string ⟨#[99]⟩],?_,⟨rfl,fun j p hj=>?_⟩⟩
 ·have h2:=World.ownsRow_lit (base:=base) (e:=58) (size:=k58.sz) W #[.int .u64 2,.int .u64 48,.string ⟨#[97]⟩,.string ⟨#[99]⟩] 1 hb (by decide) rfl
  exact h2
 ·cases j with
  | zero =>
   simp only [List.getElem?_cons_zero,Option.some.injEq] at hj
   subst hj
   exact k58_mkM _ _ _ awM
  | succ j=>simp at hj
theorem aw_c1 (W : World) : Calls Try.prog 11 #[.agg #[.slice none 0 0,.int .u64 3,.int .u64 9,.int .u64 0]] W fun e w'=>∃ v0_ : Value,e = .returned (.tuple #[v0_,.int .i64 0]) ∧ Kd.R (Kd.int .u8) 5 w' W.heap.size (fun _=>True) v0_ [6,3,9] ∧ Below W.heap.size W w':=edit_Bytes.calls none 0 [] 3 9 0 _ _ W (Kd.C_nil _ _) (Nat.le_refl _) aw_by1
theorem aw_c2 (W : World) (A : Option Addr) (h : Kd.C k58 W A 1 [awM]) : Calls Try.prog 11 #[.agg #[.slice A 1 1,.int .u64 3,.int .u64 9,.int .u64 0]] W fun e w'=>∃ v0_ : Value,e = .returned (.tuple #[v0_,.int .i64 0]) ∧ Kd.R (Kd.int .u8) 5 w' W.heap.size (fun _=>True) v0_ [7,1,2,48,1,97,1,99,3,9] ∧ Below W.heap.size W w':=edit_Bytes.calls A 1 [awM] 3 9 0 _ _ W h (Nat.le_refl _) aw_by2
theorem aw_a1 (W : World) (A : Option Addr) (h : Kd.C k58 W A 1 [awM]) : Calls Try.prog 15 #[.agg #[.slice none 0 0,.int .u64 0,.int .u64 0,.int .u64 0],.agg #[.slice A 1 1,.int .u64 3,.int .u64 9,.int .u64 0]] W fun e w'=>∃ v0_ : Value,e = .returned (.tuple #[.agg #[v0_,.int .u64 3,.int .u64 9,.int .u64 0],.int .i64 0]) ∧ Kd.R k58 58 w' W.heap.size (fun _=>True) v0_ [awM] ∧ Below W.heap.size W w':=edit_Apply.calls none 0 [] 0 0 0 A 1 [awM] 3 9 0 _ _ _ _ _ W (Kd.C_nil _ _) (Nat.le_refl _) h (Nat.le_refl _) aw_ap1
theorem aw_a2 (W : World) (A : Option Addr) (c : Nat) (hc : 1 ≤ c) (h : Kd.C k58 W A 1 [awM]) (A' : Option Addr) (h' : Kd.C k58 W A' 1 [awM]) : Calls Try.prog 15 #[.agg #[.slice A 1 c,.int .u64 3,.int .u64 9,.int .u64 0],.agg #[.slice A' 1 1,.int .u64 3,.int .u64 9,.int .u64 0]] W fun e w'=>∃ v0_ : Value,e = .returned (.tuple #[.agg #[v0_,.int .u64 3,.int .u64 9,.int .u64 0],.int .i64 90]) ∧ Kd.R k58 58 w' W.heap.size (fun _=>True) v0_ [awM] ∧ Below W.heap.size W w':=edit_Apply.calls A c [awM] 3 9 0 A' 1 [awM] 3 9 0 _ _ _ _ _ W h hc h' (Nat.le_refl _) aw_ap2
theorem aw_a3 (W : World) (A : Option Addr) (c : Nat) (hc : 1 ≤ c) (h : Kd.C k58 W A 1 [awM]) : Calls Try.prog 15 #[.agg #[.slice A 1 c,.int .u64 3,.int .u64 9,.int .u64 0],.agg #[.slice none 0 0,.int .u64 2,.int .u64 0,.int .u64 0]] W fun e w'=>∃ v0_ : Value,e = .returned (.tuple #[.agg #[v0_,.int .u64 3,.int .u64 9,.int .u64 0],.int .i64 90]) ∧ Kd.R k58 58 w' W.heap.size (fun _=>True) v0_ [awM] ∧ Below W.heap.size W w':=edit_Apply.calls A c [awM] 3 9 0 none 0 [] 2 0 0 _ _ _ _ _ W h hc (Kd.C_nil _ _) (Nat.le_refl _) aw_ap3
theorem aw_p1 (W : World) (A : Option Addr) (h : Kd.C (Kd.int .u8) W A 1 [0]) : Calls Try.prog 13 #[.slice A 1 1] W fun e w'=>∃ v0_ : Value,e = .returned (.tuple #[.agg #[v0_,.int .u64 0,.int .u64 0,.int .u64 0],.int .i64 90]) ∧ Kd.R k58 58 w' W.heap.size (fun _=>True) v0_ [] ∧ Below W.heap.size W w':=edit_Parse.calls A 1 [0] _ _ _ _ _ W h (Nat.le_refl _) aw_pa1
theorem aw_p2 (W : World) (A : Option Addr) (h : Kd.C (Kd.int .u8) W A 2 [2,0]) : Calls Try.prog 13 #[.slice A 2 2] W fun e w'=>∃ v0_ : Value,e = .returned (.tuple #[.agg #[v0_,.int .u64 0,.int .u64 0,.int .u64 0],.int .i64 90]) ∧ Kd.R k58 58 w' W.heap.size (fun _=>True) v0_ [] ∧ Below W.heap.size W w':=edit_Parse.calls A 2 [2,0] _ _ _ _ _ W h (Nat.le_refl _) aw_pa2
theorem aw_same (l : List Int) (A : Option Addr) (c : Nat) (A' : Option Addr) (c' : Nat) (W : World) (h : Kd.C (Kd.int .u8) W A l.length l) (hc : l.length ≤ c) (h' : Kd.C (Kd.int .u8) W A' l.length l) (hc' : l.length ≤ c') : Calls Try.prog 21 #[.slice A l.length c,.slice A' l.length c'] W fun e w'=>e = .returned (.bool true) ∧ Drawn0 W w':=ratlinelaw02_Same.calls A c l A' c' l true W h hc h' hc' (by unfold ratlinelaw02_Same.f;rw [beq_self_eq_true])
structure AwS (w : World) (g : Nat) (A : Option Addr) (W : World) : Prop where
 two : W.heap[g]? = some (eBx' A 1 1 3 9 0)
 row : Kd.C k58 W A 1 [awM]
 bel : Below w.heap.size w W
theorem AwS.below {w W W' : World} {g : Nat} {A : Option Addr} (h : AwS w g A W) (hr : Kd.C k58 W A 1 [awM]) (hb : Below W.heap.size W W') : AwS w g A W' :=
 ⟨(hb.block _ (blk_lt h.two)).trans h.two,Kd.C_below h.row hb,below_then h.bel h.bel.size hb⟩
set_option maxRecDepth 100000 in
set_option maxHeartbeats 8000000 in
theorem awake_calls (w : World) : Calls Try.prog 10 #[] w fun e w'=>e = .returned (.bool true) ∧ Below w.heap.size w w':=by
 have hue:=Try.underlying25
 have huv:=Try.underlying28
 have hum:=Try.underlying58
 go_enter Try.func10,Try.ntmps10
 go_wp2_with fail
 obtain ⟨W0,hW0⟩ : ∃ W,W = ((w.alloc (eBx' none 0 0 3 9 0)).alloc (eBx' (some ⟨w.heap.size + 1 + 1,0,none⟩) 1 1 3 9 0)).alloc (.cells #[.int .u64 2,.int .u64 48,.string ⟨#[97]⟩,.string ⟨#[99]⟩] 58):=⟨_,rfl⟩
 rw [show ((w.alloc (.cells #[.slice none 0 0,.int .u64 3,.int .u64 9,.int .u64 0] 25)).alloc (.cells #[.slice (some ⟨w.heap.size + 1 + 1,0,none⟩) 1 1,.int .u64 3,.int .u64 9,.int .u64 0] 25)).alloc (.cells #[.int .u64 2,.int .u64 48,.string ⟨#[97]⟩,.string ⟨#[99]⟩] 58) = W0 from hW0.symm]
 have hs0 : AwS w (w.heap.size + 1) (some ⟨w.heap.size + 1 + 1,0,none⟩) W0:=by
  refine ⟨?_,?_,?_⟩
  ·have h7:=World.alloc_heap_new (w.alloc (eBx' none 0 0 3 9 0)) (eBx' (some ⟨w.heap.size + 1 + 1,0,none⟩) 1 1 3 9 0)
   rw [World.size_alloc] at h7
   rw [hW0]
   exact (Below.heap_alloc _ _ _ (by simp)).trans h7
  ·have h7:=(Kd.R_reads' (R_note ((w.alloc (eBx' none 0 0 3 9 0)).alloc (eBx' (some ⟨w.heap.size + 1 + 1,0,none⟩) 1 1 3 9 0)) 0 (Nat.zero_le _))).2.2
   rw [World.size_alloc,World.size_alloc] at h7
   rw [hW0]
   exact h7
  ·rw [hW0]
   exact below_alloc (below_alloc (below_alloc (Below.refl _ _) _) _) _
 have HS0:=Aside0.mk hs0
 clear hs0 hW0
 refine (aw_c1 W0).mono ?_
 rintro e w1 ⟨v1,rfl,hv1,hd1⟩
 have HS1:=Aside0.mk (HS0.out.below HS0.out.row hd1)
 have HV1:=Aside0.mk (Kd.R_lower hv1 HS0.out.bel.size)
 have hy0:=(blk_cell HS1.out.two 0).trans rfl
 have hy1:=(blk_cell HS1.out.two 1).trans rfl
 have hy2:=(blk_cell HS1.out.two 2).trans rfl
 have hy3:=(blk_cell HS1.out.two 3).trans rfl
 clear hv1 hd1
 go_wp2_with fail
 refine (aw_c2 w1 _ HS1.out.row).mono ?_
 rintro e w2 ⟨v2,rfl,hv2,hd2⟩
 have HS2:=Aside0.mk (HS1.out.below HS1.out.row hd2)
 have HV1':=Aside0.mk (Kd.R_below HV1.out hd2)
 have HV2:=Aside0.mk (Kd.R_lower hv2 HS1.out.bel.size)
 clear hy0 hy1 hy2 hy3 hv2 hd2
 have hy0:=(blk_cell HS2.out.two 0).trans rfl
 have hy1:=(blk_cell HS2.out.two 1).trans rfl
 have hy2:=(blk_cell HS2.out.two 2).trans rfl
 have hy3:=(blk_cell HS2.out.two 3).trans rfl
 go_wp2_with fail
 refine (aw_a1 w2 _ HS2.out.row).mono ?_
 rintro e w3 ⟨v3,rfl,hv3,hd3⟩
 obtain ⟨A3,c3,e3⟩:=Kd.R_slice hv3
 subst e3
 have hb3 : Below w3.heap.size w3 (w3.alloc (vBx (.slice A3 1 c3) 3 9 0)):=below_alloc (Below.refl _ _) _
 have HS3:=Aside0.mk ((HS2.out.below HS2.out.row hd3).below (Kd.C_below HS2.out.row hd3) hb3)
 have HV1:=Aside0.mk (Kd.R_below (Kd.R_below HV1'.out hd3) hb3)
 have HV2':=Aside0.mk (Kd.R_below (Kd.R_below HV2.out hd3) hb3)
 have HV3:=Aside0.mk (Kd.R_below hv3 hb3)
 have HX3:=Aside0.mk (World.alloc_heap_new w3 (vBx (.slice A3 1 c3) 3 9 0))
 clear hy0 hy1 hy2 hy3 hv3 hd3 hb3 HV1' HV2
 have hy0:=(blk_cell HS3.out.two 0).trans rfl
 have hy1:=(blk_cell HS3.out.two 1).trans rfl
 have hy2:=(blk_cell HS3.out.two 2).trans rfl
 have hy3:=(blk_cell HS3.out.two 3).trans rfl
 have hx0:=(blk_cell HX3.out 0).trans rfl
 have hx1:=(blk_cell HX3.out 1).trans rfl
 have hx2:=(blk_cell HX3.out 2).trans rfl
 have hx3:=(blk_cell HX3.out 3).trans rfl
 go_wp2_with fail
 refine (aw_a2 _ A3 c3 (Kd.R_reads' HV3.out).2.1 (Kd.R_reads' HV3.out).2.2 _ HS3.out.row).mono ?_
 rintro e w4 ⟨v4,rfl,hv4,hd4⟩
 obtain ⟨A14,c14,e4⟩:=Kd.R_slice hv4
 subst e4
 have hb4 : Below w4.heap.size w4 (w4.alloc (vBx (.slice A14 1 c14) 3 9 0)):=below_alloc (Below.refl _ _) _
 have hd4':=below_then hd4 hd4.size hb4
 have HX4:=Aside0.mk ((hd4'.block _ (blk_lt HX3.out)).trans HX3.out)
 have HV14:=Aside0.mk (Kd.R_below HV1.out hd4')
 have HV24:=Aside0.mk (Kd.R_below HV2'.out hd4')
 have HV34:=Aside0.mk (Kd.R_below HV3.out hd4')
 have HB4:=Aside0.mk (below_then HS3.out.bel HS3.out.bel.size hd4')
 clear hy0 hy1 hy2 hy3 hx0 hx1 hx2 hx3 hb4 hd4 hv4 hd4'
 have hx0:=(blk_cell HX4.out 0).trans rfl
 have hx1:=(blk_cell HX4.out 1).trans rfl
 have hx2:=(blk_cell HX4.out 2).trans rfl
 have hx3:=(blk_cell HX4.out 3).trans rfl
 go_wp2_with fail
 refine (aw_a3 _ A3 c3 (Kd.R_reads' HV34.out).2.1 (Kd.R_reads' HV34.out).2.2).mono ?_
 rintro e w5 ⟨v5,rfl,hv5,hd5⟩
 obtain ⟨A15,c15,e5⟩:=Kd.R_slice hv5
 subst e5
 have hd5':=below_then (below_then hd5 hd5.size (below_alloc (Below.refl _ _) (vBx (.slice A15 1 c15) 3 9 0))) (by have:=hd5.size;simp at this ⊢;omega) (below_alloc (Below.refl _ _) (.cells #[.int .u8 0] 5))
 have HX5:=Aside0.mk ((hd5'.block _ (blk_lt HX4.out)).trans HX4.out)
 have HV15:=Aside0.mk (Kd.R_below HV14.out hd5')
 have HV25:=Aside0.mk (Kd.R_below HV24.out hd5')
 have HB5:=Aside0.mk (below_then HB4.out HB4.out.size hd5')
 have hC5:=C_bytes [0] (w5.alloc (vBx (.slice A15 1 c15) 3 9 0)) (by decide)
 rw [World.size_alloc] at hC5
 have HC5:=Aside0.mk hC5
 clear hC5
 clear hx0 hx1 hx2 hx3 hd5 hv5 hd5'
 go_wp2_with fail
 refine (aw_p1 _ _ HC5.out).mono ?_
 rintro e w6 ⟨v6,rfl,hv6,hd6⟩
 obtain ⟨A16,c16,e6⟩:=Kd.R_slice hv6
 subst e6
 have hd6':=below_then (below_then hd6 hd6.size (below_alloc (Below.refl _ _) (.cells #[.slice A16 0 c16,.int .u64 0,.int .u64 0,.int .u64 0] 25))) (by have:=hd6.size;simp at this ⊢;omega) (below_alloc (Below.refl _ _) (.cells #[.int .u8 2,.int .u8 0] 5))
 have HX6:=Aside0.mk ((hd6'.block _ (blk_lt HX5.out)).trans HX5.out)
 have HV16:=Aside0.mk (Kd.R_below HV15.out hd6')
 have HV26:=Aside0.mk (Kd.R_below HV25.out hd6')
 have HB6:=Aside0.mk (below_then HB5.out HB5.out.size hd6')
 have hC6:=C_bytes [2,0] (w6.alloc (.cells #[.slice A16 0 c16,.int .u64 0,.int .u64 0,.int .u64 0] 25)) (by decide)
 rw [World.size_alloc] at hC6
 have HC6:=Aside0.mk hC6
 clear hC6
 clear hd6 hv6 hd6'
 go_wp2_with fail
 refine (aw_p2 _ _ HC6.out).mono ?_
 rintro e w7 ⟨v7,rfl,hv7,hd7⟩
 obtain ⟨A17,c17,e7⟩:=Kd.R_slice hv7
 subst e7
 have hd7':=below_then (below_then hd7 hd7.size (below_alloc (Below.refl _ _) (.cells #[.slice A17 0 c17,.int .u64 0,.int .u64 0,.int .u64 0] 25))) (by have:=hd7.size;simp at this ⊢;omega) (below_alloc (Below.refl _ _) (.cells #[.int .u8 6,.int .u8 3,.int .u8 9] 5))
 have HX7:=Aside0.mk ((hd7'.block _ (blk_lt HX6.out)).trans HX6.out)
 have HV17:=Aside0.mk (Kd.R_below HV16.out hd7')
 have HV27:=Aside0.mk (Kd.R_below HV26.out hd7')
 have HB7:=Aside0.mk (below_then HB6.out HB6.out.size hd7')
 have hC7:=C_bytes [6,3,9] (w7.alloc (.cells #[.slice A17 0 c17,.int .u64 0,.int .u64 0,.int .u64 0] 25)) (by decide)
 rw [World.size_alloc] at hC7
 have HC7:=Aside0.mk hC7
 clear hC7
 clear hd7 hv7 hd7'
 obtain ⟨A1,c1,e1⟩:=Kd.R_slice HV17.out
 obtain ⟨A2,c2,e2⟩:=Kd.R_slice HV27.out
 subst e1
 subst e2
 go_wp2_with fail
 refine (aw_same [6,3,9] A1 c1 _ 3 _ (Kd.R_reads' HV17.out).2.2 (Kd.R_reads' HV17.out).2.1 HC7.out (Nat.le_refl _)).mono ?_
 rintro e w8 ⟨rfl,hd8⟩
 have hb8:=hd8.below
 have hd8':=below_then hb8 hb8.size (below_alloc (Below.refl _ _) (.cells #[.int .u8 7,.int .u8 1,.int .u8 2,.int .u8 48,.int .u8 1,.int .u8 97,.int .u8 1,.int .u8 99,.int .u8 3,.int .u8 9] 5))
 have HX8:=Aside0.mk ((hd8'.block _ (blk_lt HX7.out)).trans HX7.out)
 have HV28:=Aside0.mk (Kd.R_below HV27.out hd8')
 have HB8:=Aside0.mk (below_then HB7.out HB7.out.size hd8')
 have HC8:=Aside0.mk (C_bytes [7,1,2,48,1,97,1,99,3,9] w8 (by decide))
 clear hd8 hb8 hd8'
 go_wp2_with fail
 refine (aw_same [7,1,2,48,1,97,1,99,3,9] A2 c2 _ 10 _ (Kd.R_reads' HV28.out).2.2 (Kd.R_reads' HV28.out).2.1 HC8.out (Nat.le_refl _)).mono ?_
 rintro e w9 ⟨rfl,hd9⟩
 have hb9:=hd9.below
 have HX9:=Aside0.mk ((hb9.block _ (blk_lt HX8.out)).trans HX8.out)
 have HB9:=Aside0.mk (below_then HB8.out HB8.out.size hb9)
 clear hd9 hb9
 have hx0:=(blk_cell HX9.out 0).trans rfl
 have hx1:=(blk_cell HX9.out 1).trans rfl
 have hx2:=(blk_cell HX9.out 2).trans rfl
 have hx3:=(blk_cell HX9.out 3).trans rfl
 go_wp2
 go_ret
 exact ⟨rfl,HB9.out⟩
theorem ratlinelaw09_awake.calls (r : Bool) (w : World) (h : ratlinelaw09_awake.f = some r) : Calls Try.prog 10 #[] w fun e w'=>e = .returned (.bool r) ∧ Below w.heap.size w w':=by
 obtain rfl : true = r:=Option.some.inj h
 exact awake_calls w
end Go.Proofs.YtcagajobpnpicaaG

end

section
set_option linter.unusedVariables false
set_option linter.unusedSimpArgs false
namespace Go.Proofs.YtcagajobpnpicaaL
open Go Go.RowKit Go.Proofs.YtcagajobpnpicaaG Go.Proofs.Ytcagajobpnpicaa.P Go.Proofs.YtcagajobpnpicaaW.PrintWords

theorem note_f (m : MetaS) : ratlineref09_note.f m.f0 m.f1 m.f2 m.f3 = some (noteB m):=by
 unfold ratlineref09_note.f noteB
 by_cases c1 : 0 < m.f0
 ·rw [if_pos c1,decide_eq_true c1]
  by_cases c2 : 0 < m.f1
  ·rw [if_pos c2,decide_eq_true c2]
   by_cases c3 : 1 ≤ m.f2.size
   ·rw [if_pos (by omega),decide_eq_true c3]
    by_cases c4 : m.f2.size ≤ 64
    ·rw [if_pos (by omega),decide_eq_true c4]
     by_cases c5 : 1 ≤ m.f3.size
     ·rw [if_pos (by omega),decide_eq_true c5]
      by_cases c6 : m.f3.size ≤ 64
      ·rw [if_pos (by omega),decide_eq_true c6];simp
      ·rw [if_neg (by omega),decide_eq_false c6];simp
     ·rw [if_neg (by omega),decide_eq_false c5];simp
    ·rw [if_neg (by omega),decide_eq_false c4];simp
   ·rw [if_neg (by omega),decide_eq_false c3];simp
  ·rw [if_neg c2,decide_eq_false c2];simp
 ·rw [if_neg c1,decide_eq_false c1];simp
theorem rright_loop (l : List MetaS) (a b c : Int) (hl : l.length ≤ 9223372036854775807) (hw : ∀ m ∈ l,WfM m) (ha : U64 a) (hb : U64 b) (hc : U64 c) :
  ∀ (n i : Nat),i + n = l.length → Ev (fun k=>ratlineref09_Right.l0 k i l a b c) (notesB (ahead l i) (l.drop i) && (decide (l.length ≤ 64) && decide (b ≤ 72057594037927935) && (decide (0 < l.length) || decide (a ≠ 0) || decide (b ≠ 0) || decide (c ≠ 0)))):=by
 intro n
 induction n with
 | zero =>
  intro i hi
  have hd : l.drop i = []:=List.drop_eq_nil_of_le (by omega)
  rw [hd,notesB_nil,Bool.true_and]
  refine ev_of 1 (fun k=>?_)
  rw [ratlineref09_Right.l0,if_neg (by omega)]
  obtain ⟨ha,_⟩:=ha
  obtain ⟨hb,_⟩:=hb
  obtain ⟨hc,_⟩:=hc
  by_cases c1 : (l.length : Int) ≤ 64
  ·rw [if_pos c1,decide_eq_true (show l.length ≤ 64 by omega),Bool.true_and]
   by_cases c2 : b ≤ 72057594037927935
   ·rw [if_pos c2,decide_eq_true c2,Bool.true_and]
    by_cases c3 : (l.length : Int) > 0
    ·rw [if_pos c3,decide_eq_true (show 0 < l.length by omega)]
     simp
    ·rw [if_neg c3,decide_eq_false (show ¬ 0 < l.length by omega),Bool.false_or]
     by_cases c4 : a > 0
     ·rw [if_pos c4,decide_eq_true (show a ≠ 0 by omega)];simp
     ·rw [if_neg c4,decide_eq_false (show ¬ a ≠ 0 by omega),Bool.false_or]
      by_cases c5 : b > 0
      ·rw [if_pos c5,decide_eq_true (show b ≠ 0 by omega)];simp
      ·rw [if_neg c5,decide_eq_false (show ¬ b ≠ 0 by omega),Bool.false_or]
       congr 1
       exact decide_eq_decide.2 (by omega)
   ·rw [if_neg c2,decide_eq_false c2,Bool.false_and]
  ·rw [if_neg c1,decide_eq_false (show ¬ l.length ≤ 64 by omega),Bool.false_and,Bool.false_and]
 | succ n ih =>
  intro i hi
  have hlt : i < l.length:=by omega
  have hr : rd_T58 l (i : Int) = l[i]:=getD_at hlt
  rw [List.drop_eq_getElem_cons hlt,notesB_cons]
  have hn:=ih (i + 1) (by omega)
  have ha' : ahead l (i + 1) = some (l[i]).f0:=by rw [ahead,List.getElem?_eq_getElem hlt];rfl
  rw [ha'] at hn
  have hs : ∀ k,ratlineref09_Right.l0 (k + 1) i l a b c = if noteB l[i] = true then (if (i : Int) > 0 then (if 0 ≤ (wrap64 ((i : Int) - 1)) then (if (wrap64 ((i : Int) - 1)) < (l.length : Int) then (if ((rd_T58 l (wrap64 ((i : Int) - 1))).f0) ≥ (l[i]).f0 then (some false) else (ratlineref09_Right.l0 k (wrap64 ((i : Int) + 1)) l a b c)) else (none)) else (none)) else (ratlineref09_Right.l0 k (wrap64 ((i : Int) + 1)) l a b c)) else some false:=by
   intro k
   rw [ratlineref09_Right.l0,if_pos (by omega),if_pos (by omega),hr,note_f]
   rfl
  by_cases c1 : noteB l[i] = true
  ·rw [c1,Bool.true_and]
   cases i with
   | zero =>
    rw [ahead,upB,Bool.true_and]
    refine ev_step (fun k=>?_) hn
    rw [hs,if_pos c1,if_neg (by omega),up1' (by omega)]
   | succ j =>
    have hw1 : wrap64 (((j + 1 : Nat) : Int) - 1) = (j : Int):=by unfold wrap64;omega
    have hrj : rd_T58 l (j : Int) = l[j]:=getD_at (by omega)
    have haj : ahead l (j + 1) = some (l[j]).f0:=by rw [ahead,List.getElem?_eq_getElem (show j < l.length by omega)];rfl
    rw [haj,upB]
    by_cases c2 : (l[j]).f0 < (l[j + 1]).f0
    ·rw [decide_eq_true c2,Bool.true_and]
     refine ev_step (fun k=>?_) hn
     rw [hs,if_pos c1,if_pos (by omega),hw1,if_pos (by omega),if_pos (by omega),hrj,if_neg (by omega),up1' (by omega)]
    ·rw [decide_eq_false c2,Bool.false_and,Bool.false_and]
     refine ev_of 1 (fun k=>?_)
     rw [hs,if_pos c1,if_pos (by omega),hw1,if_pos (by omega),if_pos (by omega),hrj,if_pos (by omega)]
  ·have c1':=Bool.eq_false_iff.2 c1
   rw [c1',Bool.false_and,Bool.false_and,Bool.false_and]
   refine ev_of 1 (fun k=>?_)
   rw [hs,if_neg (by rw [c1'];decide)]
theorem rright_ev (l : List MetaS) (a b c : Int) (hl : l.length ≤ 9223372036854775807) (h : WfE l a b c) : Ev (fun k=>ratlineref09_Right.f k l a b c) (rightB l a b c):=by
 have:=rright_loop l a b c hl h.1 h.2.1 h.2.2.1 h.2.2.2 l.length 0 (by omega)
 rw [List.drop_zero] at this
 exact this
theorem rright_calls (A : Option Addr) (cp : Nat) (l : List MetaS) (a b c : Int) (w : World) (hr : Kd.C k58 w A l.length l) (hc : l.length ≤ cp) (h : WfE l a b c) :
  Calls Try.prog 18 #[.agg #[.slice A l.length cp,.int .u64 a,.int .u64 b,.int .u64 c]] w fun e w'=>e = .returned (.bool (rightB l a b c)) ∧ Below w.heap.size w w':=by
 have hl : l.length ≤ 9223372036854775807:=hr.2.1
 obtain ⟨N,hN⟩:=rright_ev l a b c hl h
 exact ratlineref09_Right.calls N A cp l a b c _ w hr hc (hN N (Nat.le_refl _))
end Go.Proofs.YtcagajobpnpicaaL

end

section
set_option linter.unusedVariables false
namespace Go.Proofs.YtcagajobpnpicaaL
open Go Go.RowKit Go.Proofs.YtcagajobpnpicaaG Go.Proofs.YtcagajobpnpicaaW.PrintWords

theorem vint_small {x : Nat} (h : ¬ 127 < x) : vint x = [(x : Int)]:=by rw [vint,dif_neg h]
theorem vint_big {x : Nat} (h : 127 < x) : vint x = ((x % 128 + 128 : Nat) : Int) :: vint (x / 128):=by rw [vint,dif_pos h]
theorem vint_pos (x : Nat) : 0 < (vint x).length:=by
 by_cases h : 127 < x
 ·rw [vint_big h];simp
 ·rw [vint_small h];simp
theorem vint_by (x : Nat) : By (vint x):=by
 induction x using Nat.strongRecOn with
 | ind x ih =>
  by_cases h : 127 < x
  ·rw [vint_big h]
   exact .cons (by omega) (by omega) (ih _ (by omega))
  ·rw [vint_small h]
   exact .cons (by omega) (by omega) .nil
theorem val7_vint (x : Nat) : val7 (vint x) = x:=by
 induction x using Nat.strongRecOn with
 | ind x ih =>
  by_cases h : 127 < x
  ·rw [vint_big h,val7,ih _ (by omega)];omega
  ·rw [vint_small h,val7,val7];omega
theorem vint_inj {x y : Nat} (h : vint x = vint y) : x = y:=by rw [← val7_vint x,h,val7_vint]
theorem findIdx_vint (x : Nat) (rest : List Int) : (vint x ++ rest).findIdx (· < 128) = (vint x).length - 1:=by
 induction x using Nat.strongRecOn with
 | ind x ih =>
  by_cases h : 127 < x
  ·have hp:=vint_pos (x / 128)
   rw [vint_big h,List.cons_append,List.findIdx_cons,ih _ (by omega)]
   have : decide ((((x % 128 + 128 : Nat) : Int)) < 128) = false:=decide_eq_false (by omega)
   rw [this]
   simp only [cond_false,List.length_cons]
   omega
  ·rw [vint_small h,List.cons_append,List.findIdx_cons]
   have : decide ((x : Int) < 128) = true:=decide_eq_true (by omega)
   rw [this]
   simp
theorem vint_last (x : Nat) (rest : List Int) (hx : 0 < x) : (vint x ++ rest).getD ((vint x).length - 1) 0 ≠ 0:=by
 induction x using Nat.strongRecOn with
 | ind x ih =>
  by_cases h : 127 < x
  ·have hp:=vint_pos (x / 128)
   have:=ih (x / 128) (by omega) (by omega)
   rw [vint_big h,List.cons_append,List.length_cons]
   obtain ⟨m,hm⟩ : ∃ m,(vint (x / 128)).length = m + 1:=⟨_,(Nat.succ_pred_eq_of_pos hp).symm⟩
   rw [hm] at this ⊢
   simpa using this
  ·rw [vint_small h];simp;omega
theorem vint_top (m : Nat) (hm : m ≤ 128) (rest : List Int) : ∀ n x,x < 128 ^ n * m → (vint x).length = n + 1 → (vint x ++ rest).getD n 0 < m:=by
 intro n
 induction n with
 | zero =>
  intro x hx hl
  have h : ¬ 127 < x:=by simp at hx;omega
  rw [vint_small h]
  simp at hx ⊢
  omega
 | succ n ih =>
  intro x hx hl
  by_cases h : 127 < x
  ·rw [vint_big h] at hl ⊢
   have hl' : (vint (x / 128)).length = n + 1:=by simpa using hl
   have:=ih (x / 128) (by rw [Nat.pow_succ] at hx;rw [Nat.div_lt_iff_lt_mul (by omega)];calc x < 128 ^ n * 128 * m:=hx
    _ = 128 ^ n * m * 128:=by rw [Nat.mul_assoc,Nat.mul_comm 128 m,← Nat.mul_assoc]) hl'
   simpa using this
  ·rw [vint_small h] at hl
   simp at hl
theorem takeOk_vint (x : Nat) (rest : List Int) (hx : x < 18446744073709551616) : takeOk (vint x ++ rest) = true:=by
 have hp:=vint_pos x
 have hl:=vint_len10 hx
 unfold takeOk
 rw [findIdx_vint]
 have h1 : (vint x).length - 1 < (vint x ++ rest).length:=by rw [List.length_append];omega
 have h3 : ¬ (0 < (vint x).length - 1 ∧ (vint x ++ rest).getD ((vint x).length - 1) 0 = 0):=by
  rintro ⟨h0,h⟩
  refine vint_last x rest ?_ h
  rcases Nat.eq_zero_or_pos x with rfl|h'
  ·rw [vint_small (by omega)] at h0;simp at h0
  ·exact h'
 have h4 : ¬ ((vint x).length - 1 = 9 ∧ 1 < (vint x ++ rest).getD 9 0):=by
  rintro ⟨h0,h⟩
  have:=vint_top 2 (by omega) rest 9 x (by have : (128 : Nat) ^ 9 * 2 = 18446744073709551616:=(by decide); omega) (by omega)
  omega
 simp only [h1,decide_true,Bool.true_and,Bool.and_eq_true,Bool.not_eq_true',Bool.and_eq_false_iff,decide_eq_false_iff_not,decide_eq_true_eq]
 refine ⟨⟨by omega,?_⟩,?_⟩
 ·by_cases h0 : 0 < (vint x).length - 1
  ·exact .inr (fun h=>h3 ⟨h0,h⟩)
  ·exact .inl h0
 ·by_cases h0 : (vint x).length - 1 = 9
  ·exact .inr (fun h=>h4 ⟨h0,h⟩)
  ·exact .inl h0

/-- What is put is taken. -/
theorem take_vint (x : Nat) (rest : List Int) (hx : x < 18446744073709551616) (hr : By rest) (hl : rest.length + 10 < 140737488355328) :
  nums_Take.f (vint x ++ rest) = some ((x : Int),rest,true):=by
 have hp:=vint_pos x
 have hl10:=vint_len10 hx
 unfold nums_Take.f
 rw [if_pos ⟨(vint_by x).append hr,by rw [List.length_append];omega⟩,if_pos (takeOk_vint x rest hx),findIdx_vint]
 have e : (vint x).length - 1 + 1 = (vint x).length:=by omega
 rw [e,List.take_left,List.drop_left,val7_vint]

theorem val7_pos : ∀ (l : List Int) (i : Nat),By l → l.findIdx (· < 128) = i → i < l.length → l.getD i 0 ≠ 0 → 0 < val7 (l.take (i + 1))
 | [],i,_,_,hl,_=>by simp at hl
 | c :: cs,i,hb,hi,hl,h0=>by
  have hc:=hb.head
  rw [List.findIdx_cons] at hi
  by_cases h : c < 128
  ·rw [decide_eq_true h] at hi
   simp at hi
   subst hi
   simp at h0
   simp [val7]
   omega
  ·rw [decide_eq_false h] at hi
   simp at hi
   subst hi
   have:=val7_pos cs _ hb.tail rfl (by simpa using hl) (by simpa using h0)
   rw [List.take_succ_cons,val7]
   omega
theorem vint_back : ∀ (l : List Int) (i : Nat),By l → l.findIdx (· < 128) = i → i < l.length → (0 < i → l.getD i 0 ≠ 0) → vint (val7 (l.take (i + 1))) = l.take (i + 1)
 | [],i,_,_,hl,_=>by simp at hl
 | c :: cs,i,hb,hi,hl,h0=>by
  have hc:=hb.head
  rw [List.findIdx_cons] at hi
  by_cases h : c < 128
  ·rw [decide_eq_true h] at hi
   simp at hi
   subst hi
   have e : val7 (List.take (0 + 1) (c :: cs)) = c.toNat:=by simp [val7];omega
   rw [e,vint_small (by omega)]
   simp
   omega
  ·rw [decide_eq_false h] at hi
   simp at hi
   subst hi
   have hl' : cs.findIdx (· < 128) < cs.length:=by simpa using hl
   have h0' : cs.getD (cs.findIdx (· < 128)) 0 ≠ 0:=by simpa using h0 (by omega)
   have ih:=vint_back cs _ hb.tail rfl hl' (fun _=>h0')
   have hp:=val7_pos cs _ hb.tail rfl hl' h0'
   rw [List.take_succ_cons,val7]
   rw [vint_big (by omega)]
   have e1 : ((c % 128).toNat + 128 * val7 (cs.take (cs.findIdx (· < 128) + 1))) / 128 = val7 (cs.take (cs.findIdx (· < 128) + 1)):=by omega
   have e2 : ((((c % 128).toNat + 128 * val7 (cs.take (cs.findIdx (· < 128) + 1))) % 128 + 128 : Nat) : Int) = c:=by omega
   rw [e1,ih,e2]

/-- What is taken is put as it stood; or nothing is taken. -/
theorem take_cases (l : List Int) (hb : By l) (hl : l.length < 140737488355328) :
  (∃ (x : Nat) (rest : List Int),x < 18446744073709551616 ∧ l = vint x ++ rest ∧ nums_Take.f l = some ((x : Int),rest,true)) ∨
  (nums_Take.f l = some (0,[],false) ∧ ∀ (x : Nat) (rest : List Int),x < 18446744073709551616 → l ≠ vint x ++ rest):=by
 have hf : nums_Take.f l = some (if takeOk l = true then ((val7 (l.take (l.findIdx (· < 128) + 1)) : Int),l.drop (l.findIdx (· < 128) + 1),true) else (0,[],false)):=by
  unfold nums_Take.f
  rw [if_pos ⟨hb,hl⟩]
 by_cases ho : takeOk l = true
 ·left
  rw [hf,if_pos ho]
  simp only [takeOk,Bool.and_eq_true,decide_eq_true_eq,Bool.not_eq_true',Bool.and_eq_false_iff,decide_eq_false_iff_not] at ho
  obtain ⟨⟨⟨h1,h2⟩,h3⟩,h4⟩:=ho
  have hback:=vint_back l _ hb rfl h1 (fun h=>by rcases h3 with h'|h';exact absurd h h';exact h')
  refine ⟨_,_,?_,?_,rfl⟩
  ·have e1 : l.take (l.findIdx (· < 128) + 1) = l.take (l.findIdx (· < 128)) ++ [l.getD (l.findIdx (· < 128)) 0]:=by
    rw [List.take_succ_eq_append_getElem h1,List.getD_eq_getElem?_getD,List.getElem?_eq_getElem h1];rfl
   have hlen : (l.take (l.findIdx (· < 128))).length = l.findIdx (· < 128):=by rw [List.length_take];omega
   have hlt:=val7_lt (l.take (l.findIdx (· < 128)))
   rw [e1,val7_snoc,hlen]
   rw [hlen] at hlt
   generalize l.findIdx (· < 128) = i at *
   have hi9 : i ≤ 9:=by omega
   have e9 : (128 : Nat) ^ 9 * 2 = 18446744073709551616:=by decide
   by_cases hi : i = 9
   ·subst hi
    have hm : l.getD 9 0 ∈ l:=by rw [List.getD_eq_getElem?_getD,List.getElem?_eq_getElem h1];exact List.getElem_mem h1
    have hm0:=(hb _ hm).1
    have hd : (l.getD 9 0 % 128).toNat ≤ 1:=by
     rcases h4 with h'|h'
     ·exact absurd rfl h'
     ·omega
    have : (l.getD 9 0 % 128).toNat * 128 ^ 9 ≤ 1 * 128 ^ 9:=Nat.mul_le_mul hd (Nat.le_refl _)
    omega
   ·have hd : (l.getD i 0 % 128).toNat ≤ 127:=by omega
    have : (l.getD i 0 % 128).toNat * 128 ^ i ≤ 127 * 128 ^ i:=Nat.mul_le_mul hd (Nat.le_refl _)
    have h8 : (128 : Nat) ^ i ≤ 128 ^ 8:=Nat.pow_le_pow_right (by omega) (by omega)
    have e8 : (128 : Nat) ^ 8 = 72057594037927936:=by decide
    omega
  ·rw [hback,List.take_append_drop]
 ·right
  rw [hf,if_neg ho]
  refine ⟨rfl,fun x rest hx e=>ho ?_⟩
  rw [e]
  exact takeOk_vint x rest hx
theorem vint_append_inj {x y : Nat} {a b : List Int} (hx : x < 18446744073709551616) (hy : y < 18446744073709551616) (h : vint x ++ a = vint y ++ b) : x = y ∧ a = b:=by
 have h1:=findIdx_vint x a
 have h2:=findIdx_vint y b
 rw [h] at h1
 have hp:=vint_pos x
 have hq:=vint_pos y
 have hl : (vint x).length = (vint y).length:=by omega
 have h3:=List.append_inj h hl
 exact ⟨vint_inj h3.1,h3.2⟩
end Go.Proofs.YtcagajobpnpicaaL

end

section

end

section
namespace Go.Proofs.Ytcagajobpnpicaa.P
open Go.RowKit Go.Proofs.YtcagajobpnpicaaG Go.Proofs.YtcagajobpnpicaaW.PrintWords Go.Proofs.YtcagajobpnpicaaW.PrintLast Go.Proofs.YtcagajobpnpicaaW.PrintMore
attribute [local go_sem] str_gtr str_geq str_leq max2_int min2_int max_two min_two max_three min_three max_four min_four   -- for this text's walks alone
set_option linter.unusedVariables false
set_option linter.unusedSimpArgs false

-- GIVEN: function 26 (manifest_Read)

def nums_PutFour.f (l0 : List Int) (a1 : Int) : Option (List Int):=(slices_Clone_byte_byte.f l0).bind fun t358=>((some (([(a1) % 256,(a1 / 256) % 256,(a1 / 65536) % 256,(a1 / 16777216) % 256] : List Int) : List Int)).bind fun y361=>(if t358.length + y361.length < 140737488355328 then (some (t358 ++ y361)) else (none)))
def frame_Seal.f (l0 : List Int) : Option (List Int):=if (l0.length : Int) > 1048576 then (some ([] : List Int)) else ((nums_PutFour.f ([] : List Int) (((l0.length : Int)) % 4294967296)).bind fun t367=>(if t367.length + l0.length < 140737488355328 then ((some (t367 ++ l0 : List Int)).bind fun y370=>((frame_Sum.f y370).bind fun t373=>((nums_PutFour.f y370 t373).bind fun t374=>(some t374)))) else (none)))
end Go.Proofs.Ytcagajobpnpicaa.P

end

section
set_option linter.unusedVariables false
namespace Go.Proofs.YtcagajobpnpicaaL
open Go Go.RowKit Go.Proofs.YtcagajobpnpicaaG Go.Proofs.Ytcagajobpnpicaa.P Go.Proofs.YtcagajobpnpicaaW.PrintWords Go.Proofs.YtcagajobpnpicaaW.PrintMore

theorem put_f {l : List Int} {x : Nat} (hx : x < 18446744073709551616) (hl : l.length + 10 < 140737488355328) : nums_Put.f l (x : Int) = some (l ++ vint x):=by
 unfold nums_Put.f
 rw [if_pos ⟨by omega,by omega,hl⟩,Int.toNat_natCast]
theorem wrap_u64_nat {x : Nat} (hx : x < 18446744073709551616) : IntKind.u64.wrap (x : Int) = (x : Int):=by rw [IntKind.wrap_u64];omega
theorem clone_f {l : List Int} (hl : l.length < 140737488355328) : slices_Clone_byte_byte.f l = some l:=by
 unfold slices_Clone_byte_byte.f
 rw [if_pos hl]
theorem mx_eq (a b : Int) : mx a b = max a b:=by unfold mx;split <;> omega

/-- The text that bytes say. -/
theorem takeText_yes (s : ByteArray) (rest : List Int) (most : Int) (hm : most ≤ 9223372036854775807) (hr : By rest) (hl : s.size + rest.length + 20 < 140737488355328) (h : (s.size : Int) ≤ most) :
  nums_TakeText.f (vint s.size ++ (bytesOf s ++ rest)) most = some (s,rest,true):=by
 have hbl:=bytesOf_length s
 unfold nums_TakeText.f
 rw [take_vint s.size _ (by omega) ((bytesOf_by s).append hr) (by rw [List.length_append];omega)]
 simp only [Option.bind_some,if_true]
 have e1 : IntKind.u64.wrap (mx most 0) = most:=by rw [mx_eq,IntKind.wrap_u64];omega
 have e2 : IntKind.u64.wrap (((bytesOf s ++ rest).length : Nat) : Int) = ((s.size + rest.length : Nat) : Int):=by rw [List.length_append,hbl];exact wrap_u64_nat (by omega)
 rw [e1,e2,if_neg (by omega),if_neg (by omega),if_neg (by omega),if_pos (by omega),if_pos (by rw [List.length_append];omega),Int.toNat_natCast]
 have e3 : (bytesOf s ++ rest).drop s.size = rest:=by rw [← hbl,List.drop_left]
 have e4 : (bytesOf s ++ rest).take s.size = bytesOf s:=by rw [← hbl,List.take_left]
 rw [e3,e4,clone_f (by omega)]
 simp only [Option.bind_some,str_bytes]
theorem takeText_cases (l : List Int) (most : Int) (hm : most ≤ 9223372036854775807) (hb : By l) (hl : l.length + 20 < 140737488355328) :
  (∃ (s : ByteArray) (rest : List Int),(s.size : Int) ≤ most ∧ l = vint s.size ++ (bytesOf s ++ rest) ∧ nums_TakeText.f l most = some (s,rest,true)) ∨
  (nums_TakeText.f l most = some (⟨#[]⟩,[],false) ∧ ∀ (s : ByteArray) (rest : List Int),(s.size : Int) ≤ most → l ≠ vint s.size ++ (bytesOf s ++ rest)):=by
 rcases take_cases l hb (by omega) with ⟨x,rest,hx,he,hf⟩|⟨hf,hno⟩
 ·by_cases h : (x : Int) ≤ most ∧ x ≤ rest.length
  ·left
   have hr : By rest:=By.right (he ▸ hb)
   have hsz : (strOfNums (rest.take x)).size = x:=by rw [strOfNums_size,List.length_take];omega
   have hl2 : l.length = (vint x).length + rest.length:=by rw [he,List.length_append]
   have e0 : rest = bytesOf (strOfNums (rest.take x)) ++ rest.drop x:=by rw [bytes_str (hr.take x),List.take_append_drop]
   have e1 : l = vint (strOfNums (rest.take x)).size ++ (bytesOf (strOfNums (rest.take x)) ++ rest.drop x):=by rw [hsz,← e0];exact he
   refine ⟨strOfNums (rest.take x),rest.drop x,by rw [hsz];exact h.1,e1,?_⟩
   have:=takeText_yes (strOfNums (rest.take x)) (rest.drop x) most hm (hr.drop x) (by rw [hsz,List.length_drop];omega) (by rw [hsz];exact h.1)
   rw [← e1] at this
   exact this
  ·right
   refine ⟨?_,fun s rest' hs e=>h ?_⟩
   ·have hl2 : l.length = (vint x).length + rest.length:=by rw [he,List.length_append]
    unfold nums_TakeText.f
    rw [hf]
    simp only [Option.bind_some,if_true]
    have e2 : IntKind.u64.wrap ((rest.length : Nat) : Int) = (rest.length : Int):=wrap_u64_nat (by omega)
    have e1 : IntKind.u64.wrap (mx most 0) = max most 0:=by rw [mx_eq,IntKind.wrap_u64];omega
    rw [e1,e2]
    by_cases c1 : (x : Int) > max most 0
    ·rw [if_pos c1]
    ·rw [if_neg c1]
     by_cases c2 : most < 0
     ·rw [if_pos c2]
     ·rw [if_neg c2,if_pos (by omega)]
   ·rw [he] at e
    obtain ⟨rfl,rfl⟩:=vint_append_inj hx (by have : l.length = (vint s.size).length + (s.size + rest'.length):= (by rw [he,e,List.length_append,List.length_append,bytesOf_length]); omega) e
    exact ⟨hs,by rw [List.length_append,bytesOf_length];omega⟩
 ·right
  refine ⟨?_,fun s rest' hs e=>hno s.size (bytesOf s ++ rest') ?_ e⟩
  ·unfold nums_TakeText.f
   rw [hf]
   simp
  ·have : l.length = (vint s.size).length + (s.size + rest'.length):=by rw [e,List.length_append,List.length_append,bytesOf_length]
   omega
end Go.Proofs.YtcagajobpnpicaaL

end

section
namespace Go.Proofs.Ytcagajobpnpicaa.P
open Go.RowKit Go.Proofs.YtcagajobpnpicaaG Go.Proofs.YtcagajobpnpicaaW.PrintWords Go.Proofs.YtcagajobpnpicaaW.PrintLast Go.Proofs.YtcagajobpnpicaaW.PrintMore
attribute [local go_sem] str_gtr str_geq str_leq max2_int min2_int max_two min_two max_three min_three max_four min_four   -- for this text's walks alone
set_option linter.unusedVariables false
set_option linter.unusedSimpArgs false

def ratlineref02_PutText.f (k : Nat) (l0 : List Int) (a1 : BA) : Option (List Int):=(ratlineref02_Put.f k l0 (IntKind.u64.wrap ((a1.size : Int)))).bind fun t139 => (if t139.length + a1.size < 140737488355328 then (some (t139 ++ bytesOf a1)) else (none))
set_option maxHeartbeats 8000000 in
set_option maxRecDepth 100000 in
theorem ratlineref02_PutText.calls (k : Nat) (A0 : Option Addr) (c0 : Nat) (l0 : List Int) (a1 : BA) (r : List Int) (w : World) (hr0 : Kd.C (Kd.int .u8) w A0 l0.length l0) (hc0 : l0.length ≤ c0) (h : ratlineref02_PutText.f k l0 a1 = some r) :
  Calls Try.prog 34 #[.slice A0 l0.length c0,.string a1] w fun e w' => ∃ v0_ : Value,e = .returned (v0_) ∧ Kd.R (Kd.int .u8) 5 w' w.heap.size (fun _ => True) v0_ r ∧ Below w.heap.size w w':=by
 have HR0:=Aside0.mk hr0
 have HC0:=Aside0.mk hc0
 clear hr0 hc0
 have HB:=Aside0.mk (Below.refl w.heap.size w)
 have H : ((ratlineref02_Put.f k l0 (IntKind.u64.wrap ((a1.size : Int)))).bind fun t139 => (if t139.length + a1.size < 140737488355328 then (some (t139 ++ bytesOf a1)) else (none))) = some r:=h
 clear h
 replace H:=Option.bind_eq_some_iff.mp H
 obtain ⟨t139,A30,H⟩:=H
 replace H : (if t139.length + a1.size < 140737488355328 then (some (t139 ++ bytesOf a1)) else (none)) = some r:=H
 have A3:=Aside0.mk A30
 clear A30
 by_cases c4 : t139.length + a1.size < 140737488355328
 ·rw [if_pos c4] at H
  have LMc4:=Aside0.mk c4
  clear c4
  obtain ⟨y142,hy142⟩ : ∃ y_ : List Int,y_ = (t139 ++ bytesOf a1):=⟨_,rfl⟩
  replace H : (some y142) = some r:=by first|(rw [hy142];with_reducible exact H)|(have H2_:=(Option.bind_some _ _).symm.trans H;rw [hy142];with_reducible exact H2_)|(have H2_:=(Option.bind_some _ _).symm.trans H;with_reducible exact H2_)|with_reducible exact H|(rw [hy142];exact H)|exact H
  have Ny142:=Aside0.mk hy142
  clear hy142
  obtain rfl:=Option.some.inj H
  go_enter Try.func34,Try.ntmps34
  go_wp2_with (first|((with_reducible refine gate_callee (f:=33) rfl ?_);refine goesL_ (some 9) rfl rfl Try.func33 (by kernel_rfl) rfl #[.slice A0 l0.length c0,.int .u64 (IntKind.u64.wrap ((a1.size : Int)))] rfl (by (try simp only [List.map_toArray,List.map_cons,List.map_nil]);first|done|rfl|(simp only [List.length_drop,List.length_take];rfl)) ?_;(with_reducible refine (ratlineref02_Put.calls k _ _ l0 (IntKind.u64.wrap ((a1.size : Int))) t139 _ ?side1 ?side2 A3.out).mono ?_);(case side1 => repeat (first|exact HR0.out|(with_reducible refine Kd.C_alloc ?_ _)|(with_reducible refine Kd.C_drewN ?_ _)|(with_reducible refine Kd.C_drew ?_)));(case side2 => exact HC0.out);rintro e w5 ⟨v140,rfl,ho0,hb⟩;refine ⟨_,rfl,?_⟩;have n0_:=Aside0.mk (Kd.R_lower ho0 (below_size (by repeat (first|(with_reducible first|exact HB.out|apply below_alloc|apply pw_below_drewN|apply below_drew1)|exact HB.out))));have n1_:=Aside0.mk (below_step (by repeat (first|(with_reducible first|exact HB.out|apply below_alloc|apply pw_below_drewN|apply below_drew1)|exact HB.out)) hb);clear HB;have HO141:=n0_;have HB:=n1_;clear n0_ n1_;(try clear hb);(try clear hb2);(try clear hk);(try clear hi);(try clear ho0))|(at_builtin;refine print_append_str (w0:=w) w.heap.size rfl (.tmp 9) _ 26 9 5 rfl Try.underlying26 Try.underlying9 info5 v140 t139 a1 rfl rfl ?aO ?aB ?aS ?aL ?_;(case aB => exact (by repeat (first|(with_reducible first|exact HB.out|apply below_alloc|apply pw_below_drewN|apply below_drew1)|exact HB.out)));(case aO => exact (Kd.own_of_R (by (with_reducible repeat (first|apply zA|apply zN|apply zD));exact HO141.out)));(case aS => exact (below_size (by repeat (first|(with_reducible first|exact HB.out|apply below_alloc|apply pw_below_drewN|apply below_drew1)|exact HB.out))));(case aL => have:=LMc4.out;omega);intro v143 w6 ho0 hb hg;have ho:=Kd.R_of_own (h1:=fun _ => rfl) (ok:=fun _ => True) ho0 (fun _ _ => trivial);clear ho0;have hat:=True.intro;rw [← Ny142.out] at ho;change Kd.R (Kd.int .u8) 5 w6 w.heap.size (fun _ => True) v143 y142 at ho;have n0_:=Aside0.mk (hb);have n1_:=Aside0.mk (ho);clear HB;clear HO141;have HB:=n0_;have HO144:=n1_;clear n0_ n1_;clear ho hb hg hat))
  go_ret
  exact ⟨_,by first|rfl|(simp [errW_none,errW_some] <;> rfl)|(simp [*,errW_none,errW_some] <;> rfl),by (with_reducible repeat (first|apply zA|apply zN|apply zD));exact HO144.out,by repeat (first|(with_reducible first|exact HB.out|apply below_alloc|apply pw_below_drewN|apply below_drew1)|exact HB.out)⟩
 ·rw [if_neg c4] at H
  exact absurd H (by simp)

-- GIVEN: function 12 (ratlineref09_Bytes)

-- GIVEN: function 76 (slices_Clone_byte_byte)

-- GIVEN: function 79 (nums_Take)

end Go.Proofs.Ytcagajobpnpicaa.P

end

section
set_option linter.unusedVariables false
namespace Go.Proofs.YtcagajobpnpicaaL
open Go Go.RowKit Go.Proofs.YtcagajobpnpicaaG Go.Proofs.Ytcagajobpnpicaa.P Go.Proofs.YtcagajobpnpicaaW.PrintWords Go.Proofs.YtcagajobpnpicaaW.PrintMore

theorem rput_l0 : ∀ (n x k : Nat) (l : List Int),x < 18446744073709551616 → (vint x).length ≤ n → n < k → l.length + n < 140737488355328 → ratlineref02_Put.l0 k (x : Int) l = some (l ++ vint x):=by
 intro n
 induction n with
 | zero=>intro x k l hx hn;have:=vint_pos x;omega
 | succ n ih =>
  intro x k l hx hn hk hl
  obtain ⟨k,rfl⟩ : ∃ m,k = m + 1:=⟨k - 1,by omega⟩
  simp only [ratlineref02_Put.l0]
  by_cases h : 127 < x
  ·rw [vint_big h] at hn ⊢
   have e1 : IntKind.u64.wrap (Int.tdiv (x : Int) 128) = ((x / 128 : Nat) : Int):=by
    rw [show Int.tdiv (x : Int) 128 = ((x / 128 : Nat) : Int) from rfl];exact wrap_u64_nat (by omega)
   have e2 : ((Int.tmod (x : Int) 128) + 128) % 256 = ((x % 128 + 128 : Nat) : Int):=by
    rw [show Int.tmod (x : Int) 128 = ((x % 128 : Nat) : Int) from rfl];omega
   rw [if_pos (by omega),if_pos (by omega),e1,e2,ih (x / 128) k _ (by omega) (by simpa using hn) (by omega) (by rw [List.length_append];simp;omega)]
   simp
  ·rw [vint_small h,if_neg (by omega),if_pos (by omega),show (x : Int) % 256 = (x : Int) from by omega]
theorem rput_f {l : List Int} {x k : Nat} (hx : x < 18446744073709551616) (hk : 10 < k) (hl : l.length + 20 < 140737488355328) : ratlineref02_Put.f k l (x : Int) = some (l ++ vint x):=by
 have:=vint_len10 hx
 unfold ratlineref02_Put.f
 rw [List.nil_append,if_pos (by simp;omega),rput_l0 10 x k l hx this hk (by omega)]
theorem rsame_f {a b : List Int} (ha : By a) (hb : By b) : ratlineref02_same.f a b = some (decide (b.length ≤ a.length ∧ a.take b.length = b)):=by
 unfold ratlineref02_same.f
 by_cases h : b.length ≤ a.length
 ·rw [if_pos (by omega),if_pos (by omega),if_pos (by omega),Int.toNat_natCast]
  by_cases e : a.take b.length = b
  ·rw [e,decide_eq_true ⟨h,rfl⟩];simp
  ·have : (strOfNums (a.take b.length)).toList ≠ (strOfNums b).toList:=fun e'=>e (str_inj (ha.take _) hb (ba_ext e'))
   rw [decide_eq_false (fun h'=>e h'.2),beq_eq_false_iff_ne.2 this]
 ·rw [if_neg (by omega),decide_eq_false (fun h'=>h h'.1)]
theorem rrest_f {a : List Int} {n : Nat} (hn : n ≤ a.length) (hl : a.length < 140737488355328) : ratlineref02_rest.f a (n : Int) = some (a.drop n):=by
 unfold ratlineref02_rest.f
 rw [if_pos (by omega),if_pos (by omega),Int.toNat_natCast,if_pos (by simp;omega),List.nil_append]

theorem wrap_mod (n : Nat) : IntKind.u64.wrap (n : Int) = ((n % 18446744073709551616 : Nat) : Int):=by rw [IntKind.wrap_u64];omega
theorem mod_steps (a c p N : Nat) : (a % N + c * (p % N) % N) % N = (a + c * p) % N:=by
 rw [← Nat.add_mod,Nat.add_mod a (c * (p % N)),Nat.mul_mod c (p % N),Nat.mod_mod,← Nat.mul_mod,← Nat.add_mod]
/-- What is reckoned of the first bytes. -/
def acc (l : List Int) (i : Nat) : Nat:=val7 (l.take i) % 18446744073709551616
theorem acc_step {l : List Int} (hb : By l) {i : Nat} (hi : i < l.length) : IntKind.u64.wrap ((acc l i : Int) + IntKind.u64.wrap (IntKind.u64.wrap (Int.tmod (rd l (i : Int)) 128) * ((128 ^ i % 18446744073709551616 : Nat) : Int))) = (acc l (i + 1) : Int):=by
 have hrd : rd l (i : Int) = l.getD i 0:=by unfold rd;rw [Int.toNat_natCast]
 have hm : l.getD i 0 ∈ l:=by rw [List.getD_eq_getElem?_getD,List.getElem?_eq_getElem hi];exact List.getElem_mem hi
 have hc:=hb _ hm
 have e1 : l.take (i + 1) = l.take i ++ [l.getD i 0]:=by rw [List.take_succ_eq_append_getElem hi,List.getD_eq_getElem?_getD,List.getElem?_eq_getElem hi];rfl
 have hlen : (l.take i).length = i:=by rw [List.length_take];omega
 rw [hrd]
 unfold acc
 rw [e1,val7_snoc,hlen]
 obtain ⟨c,hc'⟩:=Int.eq_ofNat_of_zero_le hc.1
 rw [hc'] at hc ⊢
 rw [show Int.tmod (c : Int) 128 = ((c % 128 : Nat) : Int) from rfl,wrap_u64_nat (by omega),show ((c : Int) % 128).toNat = c % 128 from by omega]
 rw [← Int.natCast_mul,wrap_mod,← Int.natCast_add,wrap_mod,mod_steps]

theorem rtake_none {l : List Int} (hb : By l) (hl : l.length < 140737488355328) (h : ∀ j,j < l.length → j < 10 → 128 ≤ l.getD j 0) : nums_Take.f l = some (0,[],false):=by
 rcases take_cases l hb hl with ⟨x,rest,hx,he,_⟩|⟨hf,_⟩
 ·exfalso
  have hp:=vint_pos x
  have hv:=vint_len10 hx
  have h1:=findIdx_vint x rest
  rw [← he] at h1
  have hlt : l.findIdx (· < 128) < l.length:=by rw [h1,he,List.length_append];omega
  have h2:=List.findIdx_getElem (p:=fun c : Int=>decide (c < 128)) (w:=hlt)
  have h3:=h _ hlt (by omega)
  rw [List.getD_eq_getElem?_getD,List.getElem?_eq_getElem hlt] at h3
  simp at h2 h3
  omega
 ·exact hf
theorem rtake_l0 {l : List Int} (hb : By l) (hl : l.length + 20 < 140737488355328) : ∀ (d k i : Nat),i + d = 10 → i ≤ l.length → (∀ j,j < i → 128 ≤ l.getD j 0) → 2 * d + 20 < k →
  ratlineref02_Take.l0 k l (acc l i : Int) ((128 ^ i % 18446744073709551616 : Nat) : Int) (i : Int) = nums_Take.f l:=by
 intro d
 induction d with
 | zero =>
  intro k i hd hi hj hk
  obtain ⟨k,rfl⟩ : ∃ m,k = m + 2:=⟨k - 2,by omega⟩
  have hno:=rtake_none hb (by omega) (fun j h1 h2=>hj j (by omega))
  simp only [ratlineref02_Take.l0]
  rw [decide_eq_false (show ¬ (i : Int) < 10 from by omega),ite_self]
  simp only [ratlineref02_Take.j1]
  rw [if_neg (by decide),hno]
 | succ d ih =>
  intro k i hd hi hj hk
  obtain ⟨k,rfl⟩ : ∃ m,k = m + 2:=⟨k - 2,by omega⟩
  simp only [ratlineref02_Take.l0]
  by_cases h : i < l.length
  ·have hrd : rd l (i : Int) = l.getD i 0:=by unfold rd;rw [Int.toNat_natCast]
   have hstep:=acc_step hb h
   have hw : wrap64 ((i : Int) + 1) = ((i + 1 : Nat) : Int):=by unfold wrap64;omega
   rw [if_pos (by omega),decide_eq_true (show (i : Int) < 10 from by omega)]
   simp only [ratlineref02_Take.j1]
   rw [if_pos trivial,if_pos (by omega),if_pos (by omega),hstep,hw]
   by_cases hc : rd l (i : Int) < 128
   ·rw [if_pos hc]
    have hx : acc l (i + 1) < 18446744073709551616:=Nat.mod_lt _ (by omega)
    have hidx : l.findIdx (· < 128) = i:=by
     refine (List.findIdx_eq h).2 ⟨?_,fun j hj'=>?_⟩
     ·rw [hrd,List.getD_eq_getElem?_getD,List.getElem?_eq_getElem h] at hc
      simpa using hc
     ·have:=hj j hj'
      rw [List.getD_eq_getElem?_getD,List.getElem?_eq_getElem (by omega)] at this
      simpa using this
    refine bind1 (rput_f hx (by omega) (by rw [List.length_nil];omega)) ?_
    rw [List.nil_append]
    refine bind1 (rsame_f hb (vint_by _)) ?_
    rcases take_cases l hb (by omega) with ⟨x,rest,hx',he,hf⟩|⟨hf,hno⟩
    ·have h1:=findIdx_vint x rest
     have hp:=vint_pos x
     rw [← he,hidx] at h1
     have htk : l.take (i + 1) = vint x:=by rw [he,show i + 1 = (vint x).length from by omega,List.take_left]
     have hax : acc l (i + 1) = x:=by unfold acc;rw [htk,val7_vint];omega
     have hdr : l.drop (i + 1) = rest:=by rw [he,show i + 1 = (vint x).length from by omega,List.drop_left]
     have hlen : l.length = (vint x).length + rest.length:=by rw [he,List.length_append]
     rw [hax,decide_eq_true (show (vint x).length ≤ l.length ∧ l.take (vint x).length = vint x from ⟨by omega,by rw [show (vint x).length = i + 1 from by omega];exact htk⟩),if_pos rfl]
     refine bind1 (rput_f hx' (by omega) (by rw [List.length_nil];omega)) ?_
     rw [List.nil_append,if_pos (by omega)]
     refine bind1 (rrest_f (by omega) (by omega)) ?_
     rw [hdr,hf]
    ·have hfalse : decide ((vint (acc l (i + 1))).length ≤ l.length ∧ l.take (vint (acc l (i + 1))).length = vint (acc l (i + 1))) = false:=by
      refine decide_eq_false (fun h'=>hno _ (l.drop (vint (acc l (i + 1))).length) hx ?_)
      conv=>rhs;lhs;rw [← h'.2]
      exact (List.take_append_drop _ _).symm
     rw [hfalse,if_neg (by decide),hf]
   ·rw [if_neg hc]
    have hw2 : IntKind.u64.wrap (((128 ^ i % 18446744073709551616 : Nat) : Int) * 128) = ((128 ^ (i + 1) % 18446744073709551616 : Nat) : Int):=by
     rw [IntKind.wrap_u64,Nat.pow_succ];omega
    rw [hw2]
    refine ih k (i + 1) (by omega) (by omega) (fun j hj'=>?_) (by omega)
    rcases Nat.lt_or_ge j i with h'|h'
    ·exact hj j h'
    ·obtain rfl : j = i:=by omega
     rw [hrd] at hc;omega
  ·have hno:=rtake_none hb (by omega) (fun j h1 h2=>hj j (by omega))
   rw [if_neg (by omega)]
   simp only [ratlineref02_Take.j1]
   rw [if_neg (by decide),hno]
theorem rtake_f {l : List Int} {k : Nat} (hb : By l) (hl : l.length + 20 < 140737488355328) (hk : 50 < k) : ratlineref02_Take.f k l = nums_Take.f l :=
 rtake_l0 hb hl 10 k 0 (by omega) (by omega) (fun j h=>absurd h (by omega)) (by omega)

theorem rtakeText_f {l : List Int} {k : Nat} {most : Int} (hm0 : -9223372036854775808 ≤ most) (hm : most ≤ 9223372036854775807) (hb : By l) (hl : l.length + 20 < 140737488355328) (hk : 50 < k) : ratlineref02_TakeText.f k l most = nums_TakeText.f l most:=by
 unfold ratlineref02_TakeText.f nums_TakeText.f
 rw [rtake_f hb hl hk]
 rcases take_cases l hb (by omega) with ⟨x,rest,hx,he,hf⟩|⟨hf,hno⟩
 ·have hlen : l.length = (vint x).length + rest.length:=by rw [he,List.length_append]
  rw [hf]
  simp only [Option.bind_some,if_true]
  have e1 : IntKind.u64.wrap (mx most 0) = max most 0:=by rw [mx_eq,IntKind.wrap_u64];omega
  rw [e1,wrap_u64_nat (show rest.length < 18446744073709551616 from by omega)]
  by_cases c1 : most < 0
  ·rw [if_pos c1,if_pos c1,ite_self]
  ·have e2 : IntKind.u64.wrap most = most:=by rw [IntKind.wrap_u64];omega
   have e3 : max most 0 = most:=by omega
   rw [if_neg c1,if_neg c1,e2,e3]
   by_cases c2 : (x : Int) > most
   ·rw [if_pos c2,if_pos c2]
   ·rw [if_neg c2,if_neg c2]
    by_cases c3 : (x : Int) > (rest.length : Int)
    ·rw [if_pos c3,if_pos c3]
    ·rw [if_neg c3,if_neg c3,if_pos (by omega),if_pos (by omega),if_pos (by omega),if_pos (by omega),show wrap64 (x : Int) = (x : Int) from by unfold wrap64;omega,rrest_f (by omega) (by omega),Int.toNat_natCast,clone_f (by rw [List.length_drop];omega)]
 ·rw [hf]
  simp

theorem rputText_f {l : List Int} {s : ByteArray} {k : Nat} (hk : 10 < k) (hl : l.length + 20 + s.size < 140737488355328) : ratlineref02_PutText.f k l s = some (l ++ vint s.size ++ bytesOf s):=by
 have:=vint_len10 (x:=s.size) (by omega)
 unfold ratlineref02_PutText.f
 rw [wrap_u64_nat (by omega),rput_f (by omega) hk (by omega)]
 simp only [Option.bind_some]
 rw [if_pos (by rw [List.length_append];omega)]
end Go.Proofs.YtcagajobpnpicaaL

end
