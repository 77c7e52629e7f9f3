/- Proved here: what the row of EditTells needs, part 5. Conditions: those of each theorem. Written for this claim by programs; what the claim does not use is left out. -/
import Derived.Deep.RegionLaw
import Derived.ChangeArms
import Derived.DataReads
import Derived.DataElems
import Derived.OpenShut
import Derived.SizedLaws
import Derived.Test.YtcagajobpnpicaaSEditTells4
section
set_option linter.unusedVariables false
set_option linter.unusedSimpArgs false
namespace Go.Proofs.YtcagajobpnpicaaG
open Go Go.RowKit Go.Proofs.YtcagajobpnpicaaR Go.Proofs.YtcagajobpnpicaaL Go.Proofs.Ytcagajobpnpicaa.P Go.Proofs.YtcagajobpnpicaaW.PrintWords Go.Proofs.YtcagajobpnpicaaW.PrintMore
attribute [local go_sem] str_gtr str_geq

def ratlineref09_Bytes.f (l : List MetaS) (a b c : Int) : Option (List Int × Int):=if WfE l a b c then some (if rightB l a b c then (formE l a b c,0) else ([],90)) else none
theorem rput9 {b : List Int} {x : Int} (h : U64 x) (hb : b.length ≤ 2000000) : ratlineref02_Put.f 11 b x = some (b ++ vint x.toNat):=by
 obtain ⟨h1,h2⟩:=h
 obtain ⟨n,rfl⟩:=Int.eq_ofNat_of_zero_le h1
 rw [rput_f (by omega) (by omega) (by omega)]
 rfl
theorem rputText9 {b : List Int} {s : ByteArray} (h : s.size ≤ 64) (hb : b.length ≤ 2000000) : ratlineref02_PutText.f 11 b s = some (b ++ (vint s.size ++ bytesOf s)):=by
 rw [rputText_f (by omega) (by omega),List.append_assoc]
/-- What the walk knows behind each part: the bytes so far. -/
structure RbS (w : World) (z : Nat) (A : Option Addr) (n cp : Nat) (a b c : Int) (v : Value) (q : List Int) (W : World) : Prop where
 box : W.heap[z]? = some (.cells #[.slice A n cp,.int .u64 a,.int .u64 b,.int .u64 c] 25)
 row : Kd.R (Kd.int .u8) 5 W w.heap.size (fun _=>True) v q
 below : Below w.heap.size w W
 len : q.length ≤ 20000
theorem RbS.mono {w W W' : World} {z n cp : Nat} {A : Option Addr} {a b c : Int} {v v' : Value} {q q' : List Int} (h : RbS w z A n cp a b c v q W) (hr : Kd.R (Kd.int .u8) 5 W' W.heap.size (fun _=>True) v' q') (hb : Below W.heap.size W W') (hl : q'.length ≤ 20000) : RbS w z A n cp a b c v' q' W' :=
 ⟨(hb.block _ (blk_lt h.box)).trans h.box,Kd.R_lower hr h.below.size,below_then h.below h.below.size hb,hl⟩
set_option maxRecDepth 100000 in
set_option maxHeartbeats 4000000 in
theorem rbytes_right (A : Option Addr) (cp : Nat) (l : List MetaS) (a b c : Int) (w : World) (hr : Kd.C k58 w A l.length l) (hc : l.length ≤ cp) (hw : WfE l a b c) (hok : rightB l a b c = true) :
  Calls Try.prog 12 #[.agg #[.slice A l.length cp,.int .u64 a,.int .u64 b,.int .u64 c]] w fun e w'=>∃ v0_ : Value,e = .returned (.tuple #[v0_,.int .i64 0]) ∧ Kd.R (Kd.int .u8) 5 w' w.heap.size (fun _=>True) v0_ (formE l a b c) ∧ Below w.heap.size w w':=by
 have hu:=Try.underlying25
 have hum:=Try.underlying58
 obtain ⟨z,hz⟩ : ∃ z,z = w.heap.size:=⟨_,rfl⟩
 have hb0:=World.alloc_heap_new w (.cells #[.slice A l.length cp,.int .u64 a,.int .u64 b,.int .u64 c] 25)
 have HB : Below w.heap.size w (w.alloc (.cells #[.slice A l.length cp,.int .u64 a,.int .u64 b,.int .u64 c] 25)):=below_alloc (Below.refl _ _) _
 have hcl:=rright_calls A cp l a b c _ (Kd.C_below hr HB) hc hw
 rw [hok] at hcl
 obtain ⟨f1,f2⟩:=right_fit hok hw
 have HCL:=Aside0.mk hcl
 have HB':=Aside0.mk HB
 have HB0:=Aside0.mk hb0
 have HR:=Aside0.mk hr
 have HF1:=Aside0.mk f1
 have HF2:=Aside0.mk f2
 have HW:=Aside0.mk hw
 clear hcl HB hb0 hr hw f1 f2
 go_enter Try.func12,Try.ntmps12
 go_upto_if 14 with (go_at_call 18;refine HCL.out.mono ?_;rintro e w1 ⟨rfl,hd⟩;have HD:=Aside0.mk (below_then HB'.out HB'.out.size hd);have hbx:=(hd.block _ (blk_lt HB0.out)).trans HB0.out;have HBX:=Aside0.mk hbx;have hx0:=(blk_cell hbx 0).trans rfl;clear hd hbx)
 obtain ⟨W1,hW1⟩ : ∃ W,W = w1:=⟨_,rfl⟩
 have hS0 : RbS w z A l.length cp a b c (.slice none 0 0) [] w1:=⟨by rw [hz];exact HBX.out,Kd.R_nil _ _ _ _ _,HD.out,by simp⟩
 have HS0:=Aside0.mk hS0
 rw [← hz]
 rw [← hz] at hx0
 clear hS0 hW1 HCL HB0 HBX HB'
 obtain ⟨h1,hh1⟩ : ∃ h,h = bitF (l.length : Int) 1:=⟨_,rfl⟩
 obtain ⟨b1,hb1⟩ : ∃ x,x = addF l:=⟨_,rfl⟩
 have HH1:=Aside0.mk hh1
 have HQ1:=Aside0.mk hb1
 have HZ:=Aside0.mk hz
 clear hh1 hb1 hz
 go_cut [4,5] (fun v4 v5 wc=>v4 = .int .u8 h1 ∧ Aside0 (RbS w z A l.length cp a b c v5 b1 wc))
 case first =>
  by_cases hn : 0 < l.length
  ·have hd1 : decide (0 < (l.length : Int)) = true:=decide_eq_true (by omega)
   have hh : h1 = 1:=by rw [HH1.out];unfold bitF;rw [if_pos (by omega)]
   subst hh
   clear HH1
   have hw1 : IntKind.u64.wrap (l.length : Int) = (l.length : Int):=by have:=HF1.out;rw [IntKind.wrap_u64];omega
   have hcl:=ratlineref02_Put.calls 11 none 0 [] (l.length : Int) (vint l.length) w1 ⟨rfl,Nat.zero_le _,fun h=>absurd h (by simp)⟩ (Nat.zero_le _) (by have:=HF1.out;rw [rput9 (x:=(l.length : Int)) ⟨by omega,by omega⟩ (by simp)];rfl)
   have HCL:=Aside0.mk hcl
   clear hcl
   go_wp2_with (go_at_call 33;refine HCL.out.mono ?_;rintro e w2 ⟨v,rfl,hv,hd⟩;have HS1:=Aside0.mk (HS0.out.mono hv hd (by have:=vint_len9 HF1.out;omega));have hxa:=HS1.out.box;have hx0:=(blk_cell hxa 0).trans rfl;obtain ⟨Av,cv,hvv,hlv,_⟩:=Kd.R_reads hv;subst hvv;have HLV:=Aside0.mk hlv;clear hv hd hxa hlv)
   obtain ⟨W2,hW2⟩ : ∃ W,W = w2:=⟨_,rfl⟩
   clear hW2 hx0 HS0 HD HCL
   go_loopg [5,6] l.length (fun kq v5 v6 wr=>∃ (j : Nat) (q : List Int) (Aq : Option Addr) (cq : Nat),v6 = .int .i64 (j : Int) ∧ v5 = .slice Aq q.length cq ∧ Aside0 (j + kq = l.length) ∧ Aside0 (q = vint l.length ++ notesF (l.take j)) ∧ Aside0 (q.length ≤ cq) ∧ Aside0 (RbS w z A l.length cp a b c (.slice Aq q.length cq) q wr))
   case atStart=>exact ⟨0,vint l.length,Av,cv,rfl,rfl,⟨by omega⟩,⟨by simp [notesF]⟩,HLV,HS1⟩
   case round =>
    clear HS1 HLV
    obtain ⟨j,q,Aq,cq,rfl,rfl,HJ,HQ,HLQ,HS⟩:=hrel
    have hbx:=HS.out.box
    have hx0:=(blk_cell hbx 0).trans rfl
    clear hbx
    by_cases hj : j < l.length
    ·cases gk with
     | zero=>exact absurd HJ.out (by omega)
     | succ k1 =>
      have hd2 : decide ((j : Int) < (l.length : Int)) = true:=decide_eq_true (by omega)
      obtain ⟨ad,e,h0,hq1,hq2,hq3⟩:=at_T58 (Kd.C_below HR.out HS.out.below) (j : Int) (by omega) (by omega)
      subst e
      obtain ⟨m,hm⟩ : ∃ m,m = l[j]:=⟨_,rfl⟩
      have hrd : rd_T58 l (j : Int) = m:=by rw [hm];exact getD_at hj
      rw [hrd] at h0 hq1 hq2 hq3
      simp only [Int.toNat_natCast] at h0 hq1 hq2 hq3
      have hmf : FitM m:=by rw [hm];exact HF2.out _ (List.getElem_mem hj)
      have hql : q.length ≤ 9700:=by
       have h5:=notesF_len (l.take j) (fun x hx=>HF2.out x (List.take_subset _ _ hx))
       have h7:=vint_len9 HF1.out
       have h8 : (l.take j).length ≤ 64:=by have:=HF1.out;rw [List.length_take];omega
       rw [HQ.out,List.length_append,h7]
       omega
      have HM:=Aside0.mk hm
      have HMF:=Aside0.mk hmf
      have HQL:=Aside0.mk hql
      clear hrd hm hmf hql
      go_upto_region 12 with (fail)
      obtain ⟨W2,hW2⟩ : ∃ W,W = wr.alloc (mCells m):=⟨_,rfl⟩
      obtain ⟨mb,hmb⟩ : ∃ x,x = wr.heap.size:=⟨_,rfl⟩
      rw [show wr.alloc (.cells #[.int .u64 m.f0,.int .u64 m.f1,.string m.f2,.string m.f3] 58) = W2 from hW2.symm,← hmb]
      have hg : W2.heap[mb]? = some (mCells m):=by rw [hW2,hmb];exact World.alloc_heap_new wr _
      have hS2 : RbS w z (some ad) l.length cp a b c (.slice Aq q.length cq) q W2:=by
       rw [hW2]
       exact ⟨(Below.heap_alloc wr _ _ (blk_lt HS.out.box)).trans HS.out.box,Kd.R_below HS.out.row (below_alloc (Below.refl _ _) _),HS.out.below.alloc HS.out.below.size _,HS.out.len⟩
      have hG : mb < W2.heap.size:=blk_lt hg
      clear hW2 h0 hq1 hq2 hq3 hx0 hmb
      obtain ⟨q1,hq1⟩ : ∃ x,x = q ++ vint m.f0.toNat:=⟨_,rfl⟩
      obtain ⟨q2,hq2⟩ : ∃ x,x = q1 ++ vint m.f1.toNat:=⟨_,rfl⟩
      obtain ⟨q3,hq3⟩ : ∃ x,x = q2 ++ (vint m.f2.size ++ bytesOf m.f2):=⟨_,rfl⟩
      obtain ⟨q4,hq4⟩ : ∃ x,x = q3 ++ (vint m.f3.size ++ bytesOf m.f3):=⟨_,rfl⟩
      have hl1 : q1.length ≤ 9710:=by rw [hq1,List.length_append];have:=HQL.out;have:=vint_len10 (x:=m.f0.toNat) (by have:=HMF.out.1.1.1;have:=HMF.out.1.1.2;omega);omega
      have hl2 : q2.length ≤ 9720:=by rw [hq2,List.length_append];have:=vint_len10 (x:=m.f1.toNat) (by have:=HMF.out.1.2.1;have:=HMF.out.1.2.2;omega);omega
      have hl3 : q3.length ≤ 9800:=by rw [hq3,List.length_append,List.length_append,bytesOf_len,vint_len9 HMF.out.2.1];have:=HMF.out.2.1;omega
      have hl4 : q4.length ≤ 9900:=by rw [hq4,List.length_append,List.length_append,bytesOf_len,vint_len9 HMF.out.2.2];have:=HMF.out.2.2;omega
      have HP1 : Aside0 (ratlineref02_Put.f 11 q m.f0 = some q1):=⟨by rw [hq1];exact rput9 HMF.out.1.1 (by have:=HQL.out;omega)⟩
      have HP2 : Aside0 (ratlineref02_Put.f 11 q1 m.f1 = some q2):=⟨by rw [hq2];exact rput9 HMF.out.1.2 (by omega)⟩
      have HP3 : Aside0 (ratlineref02_PutText.f 11 q2 m.f2 = some q3):=⟨by rw [hq3];exact rputText9 HMF.out.2.1 (by omega)⟩
      have HP4 : Aside0 (ratlineref02_PutText.f 11 q3 m.f3 = some q4):=⟨by rw [hq4];exact rputText9 HMF.out.2.2 (by omega)⟩
      have HQ4 : Aside0 (q4 = q ++ noteF m):=⟨by rw [hq4,hq3,hq2,hq1,noteF];simp only [List.append_assoc]⟩
      have HM1:=Aside0.mk hl1
      have HM2:=Aside0.mk hl2
      have HM3:=Aside0.mk hl3
      have HM4:=Aside0.mk hl4
      have HG0:=Aside0.mk hg
      have HS2:=Aside0.mk hS2
      clear hq1 hq2 hq3 hq4 hl1 hl2 hl3 hl4 hg hS2 hG HS HMF HQL
      go_cut [5] (fun v5 wc=>∃ (A5 : Option Addr) (c5 : Nat),v5 = .slice A5 q2.length c5 ∧ Aside0 (q2.length ≤ c5) ∧ Aside0 (RbS w z (some ad) l.length cp a b c (.slice A5 q2.length c5) q2 wc) ∧ Aside0 (wc.heap[mb]? = some (mCells m)))
      case first =>
       have hc0:=(blk_cell HG0.out 0).trans rfl
       have hc1:=(blk_cell HG0.out 1).trans rfl
       have HD0 : Aside0 (RbS w z (some ad) l.length cp a b c (.slice Aq q.length cq) q W2.drew):=⟨⟨HS2.out.box,Kd.R_drew HS2.out.row,below_drew1 HS2.out.below,HS2.out.len⟩⟩
       have HGD : Aside0 (W2.drew.heap[mb]? = some (mCells m)):=HG0
       go_region_law (first
        | (go_simp;go_at_call 33;(with_reducible refine (ratlineref02_Put.calls 11 Aq cq q m.f0 q1 _ (Kd.R_reads' HD0.out.row).2.2 HLQ.out HP1.out).mono ?_);rintro e w11 ⟨v1,rfl,hv,hd⟩;obtain ⟨A1,c1,hvv,hll,_⟩:=Kd.R_reads hv;subst hvv;have HV1:=Aside0.mk (HD0.out.mono hv hd (by have:=HM1.out;omega));have HLL1:=Aside0.mk hll;have HGG1:=Aside0.mk ((hd.block _ (blk_lt HGD.out)).trans HGD.out);clear hv hd hll hc0 hc1;have hc1:=(blk_cell HGG1.out 1).trans rfl)
        | (go_simp;go_at_call 33;(with_reducible refine (ratlineref02_Put.calls 11 A1 c1 q1 m.f1 q2 _ (Kd.R_reads' HV1.out.row).2.2 HLL1.out HP2.out).mono ?_);rintro e w12 ⟨v2,rfl,hv,hd⟩;obtain ⟨A2,c2,hvv,hll,_⟩:=Kd.R_reads hv;subst hvv;have HV2:=Aside0.mk (HV1.out.mono hv hd (by have:=HM2.out;omega));have HLL2:=Aside0.mk hll;have HGG2:=Aside0.mk ((hd.block _ (blk_lt HGG1.out)).trans HGG1.out);clear hv hd hll hc1))
       all_goals
        go_wp2
        go_meet
        case rel=>exact ⟨A2,c2,rfl,HLL2,HV2,HGG2⟩
      case rest =>
       obtain ⟨A5,c5,rfl,HL5,HS5,HG5⟩:=hcut
       go_upto_region 13 with (fail)
       have hc2:=(blk_cell HG5.out 2).trans rfl
       have hc3:=(blk_cell HG5.out 3).trans rfl
       have HD0 : Aside0 (RbS w z (some ad) l.length cp a b c (.slice A5 q2.length c5) q2 wc.drew):=⟨⟨HS5.out.box,Kd.R_drew HS5.out.row,below_drew1 HS5.out.below,HS5.out.len⟩⟩
       have HGD : Aside0 (wc.drew.heap[mb]? = some (mCells m)):=HG5
       go_region_law (first
        | (go_simp;go_at_call 34;(with_reducible refine (ratlineref02_PutText.calls 11 A5 c5 q2 m.f2 q3 _ (Kd.R_reads' HD0.out.row).2.2 HL5.out HP3.out).mono ?_);rintro e w13 ⟨v3,rfl,hv,hd⟩;obtain ⟨A3,c3,hvv,hll,_⟩:=Kd.R_reads hv;subst hvv;have HV3:=Aside0.mk (HD0.out.mono hv hd (by have:=HM3.out;omega));have HLL3:=Aside0.mk hll;have HGG3:=Aside0.mk ((hd.block _ (blk_lt HGD.out)).trans HGD.out);clear hv hd hll hc2 hc3;have hc3:=(blk_cell HGG3.out 3).trans rfl)
        | (go_simp;go_at_call 34;(with_reducible refine (ratlineref02_PutText.calls 11 A3 c3 q3 m.f3 q4 _ (Kd.R_reads' HV3.out.row).2.2 HLL3.out HP4.out).mono ?_);rintro e w14 ⟨v4,rfl,hv,hd⟩;obtain ⟨A4,c4,hvv,hll,_⟩:=Kd.R_reads hv;subst hvv;have HV4:=Aside0.mk (HV3.out.mono hv hd (by have:=HM4.out;omega));have HLL4:=Aside0.mk hll;have HGG4:=Aside0.mk ((hd.block _ (blk_lt HGG3.out)).trans HGG3.out);clear hv hd hll hc3))
       all_goals
        have hk1 : wrap64 ((j : Int) + 1) = ((j + 1 : Nat) : Int):=by unfold wrap64;have:=HF1.out;omega
        have HK1:=Aside0.mk hk1
        clear hk1
        go_wp2
        go_roundg k1
        case measure=>exact Nat.lt_succ_self _
        case rel=>exact ⟨j + 1,q4,A4,c4,by rw [HK1.out],rfl,⟨by have:=HJ.out;omega⟩,⟨by rw [HQ4.out,HQ.out,List.take_succ_eq_append_getElem hj,notesF_append,HM.out,notesF,notesF,List.append_nil];simp only [List.append_assoc]⟩,HLL4,HV4⟩
    ·have hjl : j = l.length:=by have:=HJ.out;omega
     subst hjl
     have hd2 : decide ((l.length : Int) < (l.length : Int)) = false:=decide_eq_false (by omega)
     go_wp2
     go_meet
     case rel =>
      refine ⟨rfl,?_⟩
      have hqe : b1 = q:=by rw [HQ1.out,HQ.out,List.take_length];unfold addF;rw [if_pos hn]
      rw [hqe]
      exact HS
  ·have hd1 : decide (0 < (l.length : Int)) = false:=decide_eq_false (by omega)
   have hh : h1 = 0:=by rw [HH1.out];unfold bitF;rw [if_neg (by omega)]
   have hb : b1 = []:=by rw [HQ1.out];unfold addF;rw [if_neg hn]
   subst hh hb
   clear HH1 HQ1
   go_wp2
   go_meet
   case rel=>exact ⟨rfl,HS0⟩
 case rest =>
  obtain ⟨rfl,HS1⟩:=hcut
  clear HS0 HD
  have HL1 : Aside0 (b1.length ≤ 9720):=⟨by rw [HQ1.out];have:=addF_len HF1.out HF2.out;omega⟩
  have HB1 : Aside0 (0 ≤ h1 ∧ h1 ≤ 1):=⟨by have h1:=HH1.out;unfold bitF at h1;split at h1 <;> omega⟩
  obtain ⟨wA,hwA⟩ : ∃ wA,wA = wc:=⟨_,rfl⟩
  subst hwA
  have hbx:=HS1.out.box
  have hx1:=(blk_cell hbx 1).trans rfl
  clear hbx
  obtain ⟨h2,hh2⟩ : ∃ h,h = h1 + bitF a 2:=⟨_,rfl⟩
  obtain ⟨b2,hb2⟩ : ∃ q,q = b1 ++ numF a:=⟨_,rfl⟩
  have HH2:=Aside0.mk hh2
  have HQ2:=Aside0.mk hb2
  clear hh2 hb2
  go_upto_if 51 with (fail)
  go_cut [4,5] (fun v4 v5 wc=>v4 = .int .u8 h2 ∧ Aside0 (RbS w z A l.length cp a b c v5 b2 wc))
  case first =>
   by_cases hn : 0 < a
   ·have hd1 : decide (0 < a) = true:=decide_eq_true hn
    have hdc : decide (a > 0) = true:=decide_eq_true hn
    obtain ⟨Av,cv,hvv,hlv,hCv⟩:=Kd.R_reads HS1.out.row
    subst hvv
    have hux : U64 a:=HW.out.2.1
    have hxl:=vint_len10 (x:=a.toNat) (by have:=hux.1;have:=hux.2;omega)
    have hql : b1.length ≤ 9720:=HL1.out
    have hcl:=ratlineref02_Put.calls 11 Av cv b1 a b2 wA hCv hlv (by rw [HQ2.out];unfold numF;rw [if_pos hn];exact rput9 hux (by omega))
    have hqn : b2.length ≤ 20000:=by rw [HQ2.out];unfold numF;rw [if_pos hn,List.length_append];omega
    have hwr : (h1 + 2) % 256 = h2:=by rw [HH2.out];unfold bitF;rw [if_pos hn];have:=HB1.out;omega
    have HCL:=Aside0.mk hcl
    have HQN:=Aside0.mk hqn
    have HWR:=Aside0.mk hwr
    clear hcl hqn hwr hux hxl hql hlv hCv
    go_wp2_with (go_at_call 33;refine HCL.out.mono ?_;rintro e w2 ⟨v,rfl,hv,hd⟩;have HSN:=Aside0.mk (HS1.out.mono hv hd HQN.out);obtain ⟨Av2,cv2,hvv2,_,_⟩:=Kd.R_reads hv;subst hvv2;clear hv hd)
    go_meet
    case rel=>exact ⟨by rw [HWR.out],HSN⟩
   ·have hd1 : decide (0 < a) = false:=decide_eq_false hn
    have hdc : decide (a > 0) = false:=decide_eq_false hn
    have he1 : h2 = h1:=by rw [HH2.out];unfold bitF;rw [if_neg hn];omega
    have he2 : b2 = b1:=by rw [HQ2.out];unfold numF;rw [if_neg hn,List.append_nil]
    have HE1:=Aside0.mk he1
    have HE2:=Aside0.mk he2
    clear he1 he2
    go_wp2
    go_meet
    case rel=>exact ⟨by rw [HE1.out],by rw [HE2.out];exact HS1⟩
  case rest =>
   obtain ⟨rfl,HS2⟩:=hcut
   have HL2 : Aside0 (b2.length ≤ 9740):=⟨by have h0:=HL1.out;have h1:=numF_len HW.out.2.1;rw [HQ2.out,List.length_append];omega⟩
   have HB2 : Aside0 (0 ≤ h2 ∧ h2 ≤ 3):=⟨by have h0:=HB1.out;have h1:=HH2.out;unfold bitF at h1;split at h1 <;> omega⟩
   clear hx1
   obtain ⟨wB,hwB⟩ : ∃ wB,wB = wc:=⟨_,rfl⟩
   subst hwB
   have hbx:=HS2.out.box
   have hx2:=(blk_cell hbx 2).trans rfl
   clear hbx
   obtain ⟨h3,hh3⟩ : ∃ h,h = h2 + bitF b 4:=⟨_,rfl⟩
   obtain ⟨b3,hb3⟩ : ∃ q,q = b2 ++ numF b:=⟨_,rfl⟩
   have HH3:=Aside0.mk hh3
   have HQ3:=Aside0.mk hb3
   clear hh3 hb3
   go_upto_if 60 with (fail)
   go_cut [4,5] (fun v4 v5 wc=>v4 = .int .u8 h3 ∧ Aside0 (RbS w z A l.length cp a b c v5 b3 wc))
   case first =>
    by_cases hn : 0 < b
    ·have hd1 : decide (0 < b) = true:=decide_eq_true hn
     have hdc : decide (b > 0) = true:=decide_eq_true hn
     obtain ⟨Av,cv,hvv,hlv,hCv⟩:=Kd.R_reads HS2.out.row
     subst hvv
     have hux : U64 b:=HW.out.2.2.1
     have hxl:=vint_len10 (x:=b.toNat) (by have:=hux.1;have:=hux.2;omega)
     have hql : b2.length ≤ 9740:=HL2.out
     have hcl:=ratlineref02_Put.calls 11 Av cv b2 b b3 wB hCv hlv (by rw [HQ3.out];unfold numF;rw [if_pos hn];exact rput9 hux (by omega))
     have hqn : b3.length ≤ 20000:=by rw [HQ3.out];unfold numF;rw [if_pos hn,List.length_append];omega
     have hwr : (h2 + 4) % 256 = h3:=by rw [HH3.out];unfold bitF;rw [if_pos hn];have:=HB2.out;omega
     have HCL:=Aside0.mk hcl
     have HQN:=Aside0.mk hqn
     have HWR:=Aside0.mk hwr
     clear hcl hqn hwr hux hxl hql hlv hCv
     go_wp2_with (go_at_call 33;refine HCL.out.mono ?_;rintro e w2 ⟨v,rfl,hv,hd⟩;have HSN:=Aside0.mk (HS2.out.mono hv hd HQN.out);obtain ⟨Av2,cv2,hvv2,_,_⟩:=Kd.R_reads hv;subst hvv2;clear hv hd)
     go_meet
     case rel=>exact ⟨by rw [HWR.out],HSN⟩
    ·have hd1 : decide (0 < b) = false:=decide_eq_false hn
     have hdc : decide (b > 0) = false:=decide_eq_false hn
     have he1 : h3 = h2:=by rw [HH3.out];unfold bitF;rw [if_neg hn];omega
     have he2 : b3 = b2:=by rw [HQ3.out];unfold numF;rw [if_neg hn,List.append_nil]
     have HE1:=Aside0.mk he1
     have HE2:=Aside0.mk he2
     clear he1 he2
     go_wp2
     go_meet
     case rel=>exact ⟨by rw [HE1.out],by rw [HE2.out];exact HS2⟩
   case rest =>
    obtain ⟨rfl,HS3⟩:=hcut
    have HL3 : Aside0 (b3.length ≤ 9760):=⟨by have h0:=HL2.out;have h1:=numF_len HW.out.2.2.1;rw [HQ3.out,List.length_append];omega⟩
    have HB3 : Aside0 (0 ≤ h3 ∧ h3 ≤ 7):=⟨by have h0:=HB2.out;have h1:=HH3.out;unfold bitF at h1;split at h1 <;> omega⟩
    clear hx2
    obtain ⟨wC,hwC⟩ : ∃ wC,wC = wc:=⟨_,rfl⟩
    subst hwC
    have hbx:=HS3.out.box
    have hx3:=(blk_cell hbx 3).trans rfl
    clear hbx
    obtain ⟨h4,hh4⟩ : ∃ h,h = h3 + bitF c 8:=⟨_,rfl⟩
    obtain ⟨b4,hb4⟩ : ∃ q,q = b3 ++ numF c:=⟨_,rfl⟩
    have HH4:=Aside0.mk hh4
    have HQ4:=Aside0.mk hb4
    clear hh4 hb4
    go_upto_if 69 with (fail)
    go_cut [4,5] (fun v4 v5 wc=>v4 = .int .u8 h4 ∧ Aside0 (RbS w z A l.length cp a b c v5 b4 wc))
    case first =>
     by_cases hn : 0 < c
     ·have hd1 : decide (0 < c) = true:=decide_eq_true hn
      have hdc : decide (c > 0) = true:=decide_eq_true hn
      obtain ⟨Av,cv,hvv,hlv,hCv⟩:=Kd.R_reads HS3.out.row
      subst hvv
      have hux : U64 c:=HW.out.2.2.2
      have hxl:=vint_len10 (x:=c.toNat) (by have:=hux.1;have:=hux.2;omega)
      have hql : b3.length ≤ 9760:=HL3.out
      have hcl:=ratlineref02_Put.calls 11 Av cv b3 c b4 wC hCv hlv (by rw [HQ4.out];unfold numF;rw [if_pos hn];exact rput9 hux (by omega))
      have hqn : b4.length ≤ 20000:=by rw [HQ4.out];unfold numF;rw [if_pos hn,List.length_append];omega
      have hwr : (h3 + 8) % 256 = h4:=by rw [HH4.out];unfold bitF;rw [if_pos hn];have:=HB3.out;omega
      have HCL:=Aside0.mk hcl
      have HQN:=Aside0.mk hqn
      have HWR:=Aside0.mk hwr
      clear hcl hqn hwr hux hxl hql hlv hCv
      go_wp2_with (go_at_call 33;refine HCL.out.mono ?_;rintro e w2 ⟨v,rfl,hv,hd⟩;have HSN:=Aside0.mk (HS3.out.mono hv hd HQN.out);obtain ⟨Av2,cv2,hvv2,_,_⟩:=Kd.R_reads hv;subst hvv2;clear hv hd)
      go_meet
      case rel=>exact ⟨by rw [HWR.out],HSN⟩
     ·have hd1 : decide (0 < c) = false:=decide_eq_false hn
      have hdc : decide (c > 0) = false:=decide_eq_false hn
      have he1 : h4 = h3:=by rw [HH4.out];unfold bitF;rw [if_neg hn];omega
      have he2 : b4 = b3:=by rw [HQ4.out];unfold numF;rw [if_neg hn,List.append_nil]
      have HE1:=Aside0.mk he1
      have HE2:=Aside0.mk he2
      clear he1 he2
      go_wp2
      go_meet
      case rel=>exact ⟨by rw [HE1.out],by rw [HE2.out];exact HS3⟩
    case rest =>
     obtain ⟨rfl,HS4⟩:=hcut
     have HL4 : Aside0 (b4.length ≤ 9780):=⟨by have h0:=HL3.out;have h1:=numF_len HW.out.2.2.2;rw [HQ4.out,List.length_append];omega⟩
     have HB4 : Aside0 (0 ≤ h4 ∧ h4 ≤ 15):=⟨by have h0:=HB3.out;have h1:=HH4.out;unfold bitF at h1;split at h1 <;> omega⟩
     clear hx3
     obtain ⟨A5,c5,hv5⟩:=Kd.R_slice HS4.out.row
     subst hv5
     have hCv:=(Kd.R_reads' HS4.out.row).2.2
     have HCV:=Aside0.mk hCv
     have HLC:=Aside0.mk (Kd.R_reads' HS4.out.row).2.1
     have hform : formE l a b c = h4 :: b4:=by
      rw [HQ4.out,HQ3.out,HQ2.out,HQ1.out,HH4.out,HH3.out,HH2.out,HH1.out]
      unfold formE headF bodyF
      simp only [List.append_assoc]
     have HFORM:=Aside0.mk hform
     have HBW:=Aside0.mk HS4.out.below
     clear hCv hform HS1 HS2 HS3 HH1 HH2 HH3 HH4 HQ1 HQ2 HQ3 HQ4
     obtain ⟨t5,ht5⟩ : ∃ t,t = b4.length:=⟨_,rfl⟩
     go_wp2_with (first
      | ((with_reducible refine gate_builtin (b:=.append) (xs:=#[.tmp 77,.tmp 78]) rfl ?_);at_builtin;refine Kd.R_append_rows (Kd.int .u8) (w0:=w) w.heap.size rfl (.tmp 77) (.tmp 78) 26 5 (.int .u8 0) 1 rfl Try.underlying26 info5 rfl (by decide) (by omega) (.slice (some ⟨wc.heap.size,0,none⟩) 1 1) ([h4] : List Int) b4 _ _ _ (fun _=>True) (fun _=>False) rfl rfl ?aO ?aR (fun _ _ h=>h) (fun _ h=>h.elim) ?aF ?aB ?aS ?aL ?_;(case aR=>exact Kd.C_alloc HCV.out _);(case aB=>exact below_alloc HBW.out _);(case aF=>exact (fun _ _=>trivial));(case aO=>exact R_one wc w.heap.size HBW.out.size h4);(case aS=>have:=HBW.out.size;simp;omega);(case aL=>have:=HL4.out;simp;omega);intro v7 w7 ho hb hg hat;have HO:=Aside0.mk ho;have HB7:=Aside0.mk hb;clear ho hb hg hat))
     go_ret2
     exact ⟨_,rfl,by rw [HFORM.out];exact HO.out,HB7.out⟩
theorem ratlineref09_Bytes.calls (A0_0 : Option Addr) (c0_0 : Nat) (l0_0 : List MetaS) (a0_1 a0_2 a0_3 : Int) (r1 : List Int) (r2 : Int) (w : World) (hr0_0 : Kd.C k58 w A0_0 l0_0.length l0_0) (hc0_0 : l0_0.length ≤ c0_0) (h : ratlineref09_Bytes.f l0_0 a0_1 a0_2 a0_3 = some (r1,r2)) :
  Calls Try.prog 12 #[.agg #[.slice A0_0 l0_0.length c0_0,.int .u64 a0_1,.int .u64 a0_2,.int .u64 a0_3]] w fun e w'=>∃ v0_ : Value,e = .returned (.tuple #[v0_,.int .i64 r2]) ∧ Kd.R (Kd.int .u8) 5 w' w.heap.size (fun _=>True) v0_ r1 ∧ Below w.heap.size w w':=by
 unfold ratlineref09_Bytes.f at h
 by_cases hw : WfE l0_0 a0_1 a0_2 a0_3
 ·rw [if_pos hw] at h
  have h:=Option.some.inj h
  cases hok : rightB l0_0 a0_1 a0_2 a0_3 with
  | true =>
   rw [hok,if_pos rfl,Prod.mk.injEq] at h
   obtain ⟨rfl,rfl⟩:=h
   exact rbytes_right A0_0 c0_0 l0_0 a0_1 a0_2 a0_3 w hr0_0 hc0_0 hw hok
  | false =>
   rw [hok,if_neg (by decide),Prod.mk.injEq] at h
   obtain ⟨rfl,rfl⟩:=h
   have HB : Below w.heap.size w (w.alloc (.cells #[.slice A0_0 l0_0.length c0_0,.int .u64 a0_1,.int .u64 a0_2,.int .u64 a0_3] 25)):=below_alloc (Below.refl _ _) _
   have hcl:=rright_calls A0_0 c0_0 l0_0 a0_1 a0_2 a0_3 _ (Kd.C_below hr0_0 HB) hc0_0 hw
   rw [hok] at hcl
   have HCL:=Aside0.mk hcl
   have HB':=Aside0.mk HB
   clear hcl HB hr0_0 hw hok
   go_enter Try.func12,Try.ntmps12
   go_wp2_with (go_at_call 18;refine HCL.out.mono ?_;rintro e w1 ⟨rfl,hd⟩;have HD:=Aside0.mk (below_then HB'.out HB'.out.size hd);clear hd)
   go_ret2
   exact ⟨_,rfl,Kd.R_nil _ _ _ _ _,HD.out⟩
 ·rw [if_neg hw] at h
  cases h
end Go.Proofs.YtcagajobpnpicaaG

end

section
set_option linter.unusedVariables false
set_option linter.unusedSimpArgs false
namespace Go.Proofs.YtcagajobpnpicaaL
open Go Go.RowKit Go.Proofs.YtcagajobpnpicaaG Go.Proofs.Ytcagajobpnpicaa.P Go.Proofs.YtcagajobpnpicaaW.PrintWords Go.Proofs.YtcagajobpnpicaaW.PrintMore

theorem heap58 : Kd.Heap k58:=by
 unfold k58
 repeat (first|apply Kd.heap_slice|apply Kd.heap_iso|apply Kd.heap_pair|exact Kd.heap_string|exact Kd.heap_int _)
abbrev EdS:=S25
theorem lit_u64 {x : Int} (h : (Lit.int .u64 x).wf = true) : U64 x:=by
 simp [Lit.wf,IntKind.min,IntKind.max,IntKind.bits,IntKind.signed] at h
 exact ⟨by omega,by omega⟩
def shortB (m : MetaS) : Bool:=decide (m.f2.size ≤ 70) && decide (m.f3.size ≤ 70)
def fewE (e : EdS) : Bool:=e.f0.all shortB && decide (e.f0.length ≤ 70)
theorem few_l1 (L : List EdS) (x9 : Int) (l : List MetaS) (a b c : Int) (hl : l.length ≤ 9223372036854775807) (r : Bool) (hc : Ev (fun k=>ratlinelaw09_Few.l0 k L (L.length : Int) (wrap64 (x9 + 1))) r) :
  ∀ (n i : Nat),i + n = l.length → Ev (fun k=>ratlinelaw09_Few.l1 k L (L.length : Int) x9 l (l.length : Int) i l a b c) ((l.drop i).all shortB && decide (l.length ≤ 70) && r):=by
 intro n
 induction n with
 | zero =>
  intro i hi
  rw [List.drop_eq_nil_of_le (by omega),List.all_nil,Bool.true_and]
  by_cases h : l.length ≤ 70
  ·rw [decide_eq_true h,Bool.true_and]
   exact ev_step (fun k=>by rw [ratlinelaw09_Few.l1,if_neg (by omega),if_neg (by omega)]) hc
  ·rw [decide_eq_false h,Bool.false_and]
   exact ev_of 1 (fun k=>by rw [ratlinelaw09_Few.l1,if_neg (by omega),if_pos (by omega)])
 | succ n ih =>
  intro i hi
  have hlt : i < l.length:=by omega
  have hr : rd_T58 l (i : Int) = l[i]:=getD_at hlt
  have hn:=ih (i + 1) (by omega)
  rw [List.drop_eq_getElem_cons hlt,List.all_cons]
  by_cases h2 : (l[i]).f2.size ≤ 70
  ·by_cases h3 : (l[i]).f3.size ≤ 70
   ·rw [show shortB l[i] = true by unfold shortB;rw [decide_eq_true h2,decide_eq_true h3];rfl,Bool.true_and]
    exact ev_step (fun k=>by rw [ratlinelaw09_Few.l1,if_pos (by omega),if_pos (by omega),if_pos (by omega),hr,if_neg (by omega),if_neg (by omega),up1' (by omega)]) hn
   ·rw [show shortB l[i] = false by unfold shortB;rw [decide_eq_true h2,decide_eq_false h3];rfl,Bool.false_and,Bool.false_and,Bool.false_and]
    exact ev_of 1 (fun k=>by rw [ratlinelaw09_Few.l1,if_pos (by omega),if_pos (by omega),if_pos (by omega),hr,if_neg (by omega),if_pos (by omega)])
  ·rw [show shortB l[i] = false by unfold shortB;rw [decide_eq_false h2];rfl,Bool.false_and,Bool.false_and,Bool.false_and]
   exact ev_of 1 (fun k=>by rw [ratlinelaw09_Few.l1,if_pos (by omega),if_pos (by omega),if_pos (by omega),hr,if_pos (by omega)])
theorem few_l0 (L : List EdS) (hL : L.length ≤ 1000) (hl : ∀ e ∈ L,e.f0.length ≤ 9223372036854775807) :
  ∀ (n i : Nat),i + n = L.length → Ev (fun k=>ratlinelaw09_Few.l0 k L (L.length : Int) i) ((L.drop i).all fewE):=by
 intro n
 induction n with
 | zero =>
  intro i hi
  rw [List.drop_eq_nil_of_le (by omega),List.all_nil]
  exact ev_of 1 (fun k=>by rw [ratlinelaw09_Few.l0,if_neg (by omega)])
 | succ n ih =>
  intro i hi
  have hlt : i < L.length:=by omega
  have hr : rd_T25 L (i : Int) = L[i]:=getD_at hlt
  have hn:=ih (i + 1) (by omega)
  rw [List.drop_eq_getElem_cons hlt,List.all_cons]
  have h1:=few_l1 L (i : Int) (L[i]).f0 (L[i]).f1 (L[i]).f2 (L[i]).f3 (hl _ (List.getElem_mem hlt)) _ (by rw [up1 (by omega)];exact hn) (L[i]).f0.length 0 (by omega)
  rw [List.drop_zero] at h1
  exact ev_step (fun k=>by rw [ratlinelaw09_Few.l0,if_pos (by omega),if_pos (by omega),if_pos (by omega),hr];rfl) h1
theorem few_ev (L : List EdS) (hL : L.length ≤ 1000) (hl : ∀ e ∈ L,e.f0.length ≤ 9223372036854775807) : Ev (fun k=>ratlinelaw09_Few.f k L) (L.all fewE):=by
 have:=few_l0 L hL hl L.length 0 (by omega)
 rw [List.drop_zero] at this
 exact this
theorem fewE_len {e : EdS} (h : fewE e = true) : e.f0.length ≤ 70:=by
 unfold fewE at h
 simp only [Bool.and_eq_true,decide_eq_true_eq] at h
 exact h.2
/-- What comes in. -/
def WfI (e : EdS) : Prop:=(e.f0.length ≤ maxLen ∧ ∀ m ∈ e.f0,(Lit.int .u64 m.f0).wf = true ∧ (Lit.int .u64 m.f1).wf = true ∧ m.f2.size ≤ maxLen ∧ m.f3.size ≤ maxLen) ∧ (Lit.int .u64 e.f1).wf = true ∧ (Lit.int .u64 e.f2).wf = true ∧ (Lit.int .u64 e.f3).wf = true
theorem WfI.e {e : EdS} (h : WfI e) : WfE e.f0 e.f1 e.f2 e.f3:=⟨fun m hm=>⟨lit_u64 (h.1.2 m hm).1,lit_u64 (h.1.2 m hm).2.1⟩,lit_u64 h.2.1,lit_u64 h.2.2.1,lit_u64 h.2.2.2⟩
theorem WfI.len {e : EdS} (h : WfI e) : e.f0.length ≤ 9223372036854775807:=h.1.1
end Go.Proofs.YtcagajobpnpicaaL

end

section
set_option linter.unusedVariables false
set_option linter.unusedSimpArgs false
namespace Go.Proofs.YtcagajobpnpicaaL
open Go Go.RowKit Go.Proofs.YtcagajobpnpicaaG Go.Proofs.Ytcagajobpnpicaa.P Go.Proofs.YtcagajobpnpicaaW.PrintWords Go.Proofs.YtcagajobpnpicaaW.PrintMore

theorem noteF_by (m : MetaS) : By (noteF m):=(vint_by _).append ((vint_by _).append ((vint_by _).append ((bytesOf_by _).append ((vint_by _).append (bytesOf_by _)))))
theorem notesF_by : ∀ l : List MetaS,By (notesF l)
 | []=>.nil
 | m :: r=>(noteF_by m).append (notesF_by r)
theorem addF_by (l : List MetaS) : By (addF l):=by
 unfold addF
 split
 ·exact (vint_by _).append (notesF_by l)
 ·exact .nil
theorem numF_by (x : Int) : By (numF x):=by
 unfold numF
 split
 ·exact vint_by _
 ·exact .nil
theorem bodyF_by (l : List MetaS) (a b c : Int) : By (bodyF l a b c):=(addF_by l).append ((numF_by a).append ((numF_by b).append (numF_by c)))
theorem headF_le (l : List MetaS) (a b c : Int) : 0 ≤ headF l a b c ∧ headF l a b c ≤ 15:=by
 have h1:=bitF_nn (l.length : Int) 1 (by omega)
 have h2:=bitF_nn a 2 (by omega)
 have h3:=bitF_nn b 4 (by omega)
 have h4:=bitF_nn c 8 (by omega)
 unfold headF
 omega
theorem formE_by (l : List MetaS) (a b c : Int) : By (formE l a b c):=by
 have h:=headF_le l a b c
 exact .cons h.1 (by omega) (bodyF_by l a b c)
theorem sameB_eq {a b : List Int} (ha : By a) (hb : By b) : sameB a b = decide (a = b):=by
 unfold sameB
 by_cases h : a = b
 ·subst h;simp
 ·have : (strOfNums a).toList ≠ (strOfNums b).toList:=fun e=>h (str_inj ha hb (ba_ext e))
  rw [decide_eq_false h,beq_eq_false_iff_ne.2 this]
theorem ebytes_yes {l : List MetaS} {a b c : Int} (h : rightB l a b c = true) (hw : WfE l a b c) : edit_Bytes.f l a b c = some (formE l a b c,0):=by
 unfold edit_Bytes.f
 rw [if_pos hw,if_pos h]
theorem ebytes_no {l : List MetaS} {a b c : Int} (h : rightB l a b c = false) (hw : WfE l a b c) : edit_Bytes.f l a b c = some ([],90):=by
 unfold edit_Bytes.f
 rw [if_pos hw,if_neg (by rw [h];decide)]

def big : Nat:=140737488000000
theorem take_any (l : List Int) (hb : By l) (hl : l.length < big) : ∃ (x : Int) (r : List Int) (ok : Bool),nums_Take.f l = some (x,r,ok) ∧ U64 x ∧ By r ∧ r.length ≤ l.length:=by
 unfold big at hl
 rcases take_cases l hb (by omega) with ⟨x,rest,hx,he,hf⟩|⟨hf,_⟩
 ·exact ⟨x,rest,true,hf,⟨by omega,by omega⟩,By.right (he ▸ hb),by rw [he,List.length_append];omega⟩
 ·exact ⟨0,[],false,hf,⟨by omega,by omega⟩,.nil,by simp⟩
theorem text_any (l : List Int) (hb : By l) (hl : l.length < big) : ∃ (s : ByteArray) (r : List Int) (ok : Bool),nums_TakeText.f l 64 = some (s,r,ok) ∧ By r ∧ r.length ≤ l.length:=by
 unfold big at hl
 rcases takeText_cases l 64 (by omega) hb (by omega) with ⟨s,rest,hs,he,hf⟩|⟨hf,_⟩
 ·exact ⟨s,rest,true,hf,By.right (By.right (he ▸ hb)),by rw [he,List.length_append,List.length_append];omega⟩
 ·exact ⟨_,[],false,hf,.nil,by simp⟩
theorem meta_any (b : List Int) (bad : Bool) (hb : By b) (hl : b.length < big) : ∃ (m : MetaS) (r : List Int) (bad' : Bool),metaF b bad = some (m,r,bad') ∧ WfM m ∧ By r ∧ r.length ≤ b.length:=by
 obtain ⟨x1,r1,k1,h1,u1,b1,l1⟩:=take_any b hb hl
 obtain ⟨x2,r2,k2,h2,u2,b2,l2⟩:=take_any r1 b1 (by omega)
 obtain ⟨x3,r3,k3,h3,b3,l3⟩:=text_any r2 b2 (by omega)
 obtain ⟨x4,r4,k4,h4,b4,l4⟩:=text_any r3 b3 (by omega)
 refine ⟨⟨x1,x2,x3,x4⟩,r4,((((bad || !k1) || !k2) || !k3) || !k4),?_,⟨u1,u2⟩,b4,by omega⟩
 unfold metaF
 exact bind3 h1 (fun t t1 t2 t3=>bind3 (by rw [t2];exact h2) (fun u u1 u2 u3=>bind3 (by rw [u2];exact h3) (fun v v1 v2 v3=>bind3 (by rw [v2];exact h4) (fun y y1 y2 y3=>by rw [t1,t3,u1,u3,v1,v3,y1,y2,y3]))))
theorem addL_any : ∀ (m : Nat) (n : Int) (out : List MetaS) (b : List Int) (bad : Bool),By b → b.length < big → (∀ x ∈ out,WfM x) → ∃ (out' : List MetaS) (r : List Int) (bad' : Bool),addL m n out b bad = some (out',r,bad') ∧ (∀ x ∈ out',WfM x) ∧ By r ∧ r.length ≤ b.length
 | 0,n,out,b,bad,hb,hl,ho=>⟨out,b,bad,rfl,ho,hb,Nat.le_refl _⟩
 | m + 1,n,out,b,bad,hb,hl,ho=>by
  rw [addL]
  by_cases hn : 0 < n
  ·rw [if_pos hn]
   cases bad with
   | true=>exact ⟨out,b,true,rfl,ho,hb,Nat.le_refl _⟩
   | false =>
    obtain ⟨x,r,bad',h1,h2,h3,h4⟩:=meta_any b false hb hl
    obtain ⟨o2,r2,bad2,q1,q2,q3,q4⟩:=addL_any m (IntKind.u64.wrap (n - 1)) (out ++ [x]) r bad' h3 (by omega) (fun y hy=>by
     rcases List.mem_append.1 hy with hy|hy
     ·exact ho y hy
     ·rw [List.mem_singleton.1 hy];exact h2)
    refine ⟨o2,r2,bad2,?_,q2,q3,by omega⟩
    rw [if_neg (by decide)]
    exact bind3 h1 (fun t t1 t2 t3=>by rw [t1,t2,t3];exact q1)
  ·rw [if_neg hn]
   exact ⟨out,b,bad,rfl,ho,hb,Nat.le_refl _⟩
theorem addT_any (b : List Int) (bad : Bool) (hb : By b) (hl : b.length < big) : ∃ (out' : List MetaS) (r : List Int) (bad' : Bool),addT b bad = some (out',r,bad') ∧ (∀ x ∈ out',WfM x) ∧ By r ∧ r.length ≤ b.length:=by
 obtain ⟨x1,r1,k1,h1,u1,b1,l1⟩:=take_any b hb hl
 obtain ⟨o2,r2,bad2,q1,q2,q3,q4⟩:=addL_any 65 x1 [] r1 (bad || !k1) b1 (by omega) (fun y hy=>by cases hy)
 refine ⟨o2,r2,bad2,?_,q2,q3,by omega⟩
 unfold addT
 exact bind3 h1 (fun t t1 t2 t3=>by rw [t1,t2,t3];exact q1)
def PSok (s : PS) : Prop:=WfE s.1 s.2.1 s.2.2.1 s.2.2.2.1 ∧ By s.2.2.2.2.1 ∧ s.2.2.2.2.1.length < big
theorem stepP_any (h : Int) (i : Nat) (s : PS) (hs : PSok s) : ∃ t,stepP h i s = some t ∧ PSok t:=by
 obtain ⟨l,a,b,c,r,bad⟩:=s
 obtain ⟨⟨w1,w2,w3,w4⟩,hb,hl⟩:=hs
 have hid : PSok (l,a,b,c,r,bad):=⟨⟨w1,w2,w3,w4⟩,hb,hl⟩
 simp only at w1 w2 w3 w4 hb hl
 obtain ⟨x1,r1,k1,h1,u1,b1,l1⟩:=take_any r hb hl
 match i with
 | 0 =>
  rw [stepP]
  by_cases hB : bitB h 0 = true
  ·rw [if_pos hB]
   obtain ⟨o2,r2,bad2,q1,q2,q3,q4⟩:=addT_any r bad hb hl
   refine ⟨(o2,a,b,c,r2,bad2),?_,⟨q2,w2,w3,w4⟩,q3,by show r2.length < big;omega⟩
   exact bind3 q1 (fun t t1 t2 t3=>by rw [t1,t2,t3])
  ·exact ⟨_,if_neg hB,hid⟩
 | 1 =>
  rw [stepP]
  by_cases hB : bitB h 1 = true
  ·rw [if_pos hB]
   refine ⟨(l,x1,b,c,r1,bad || !k1),?_,⟨w1,u1,w3,w4⟩,b1,by show r1.length < big;omega⟩
   exact bind3 h1 (fun t t1 t2 t3=>by rw [t1,t2,t3])
  ·exact ⟨_,if_neg hB,hid⟩
 | 2 =>
  rw [stepP]
  by_cases hB : bitB h 2 = true
  ·rw [if_pos hB]
   refine ⟨(l,a,x1,c,r1,bad || !k1),?_,⟨w1,w2,u1,w4⟩,b1,by show r1.length < big;omega⟩
   exact bind3 h1 (fun t t1 t2 t3=>by rw [t1,t2,t3])
  ·exact ⟨_,if_neg hB,hid⟩
 | j + 3 =>
  rw [show stepP h (j + 3) (l,a,b,c,r,bad) = if bitB h 3 = true then (nums_Take.f r).bind fun t=>some (l,a,b,t.1,t.2.1,bad || !t.2.2) else some (l,a,b,c,r,bad) from rfl]
  by_cases hB : bitB h 3 = true
  ·rw [if_pos hB]
   refine ⟨(l,a,b,x1,r1,bad || !k1),?_,⟨w1,w2,w3,u1⟩,b1,by show r1.length < big;omega⟩
   exact bind3 h1 (fun t t1 t2 t3=>by rw [t1,t2,t3])
  ·exact ⟨_,if_neg hB,hid⟩
theorem runP_any (h : Int) : ∀ (n i : Nat) (s : PS),PSok s → ∃ t,runP h n i s = some t ∧ PSok t
 | 0,i,s,hs=>⟨s,rfl,hs⟩
 | n + 1,i,s,hs=>by
  obtain ⟨t,h1,h2⟩:=stepP_any h i s hs
  obtain ⟨u,h3,h4⟩:=runP_any h n (i + 1) t h2
  exact ⟨u,by rw [runP,h1];exact h3,h4⟩
/-- What bytes say: an edit that is right, put as it stood, or none. -/
theorem eparse_any (raw : List Int) (hb : By raw) (hl : raw.length < big) :
  (∃ (l : List MetaS) (a b c : Int),rightB l a b c = true ∧ WfE l a b c ∧ raw = formE l a b c ∧ edit_Parse.f raw = some (l,a,b,c,0)) ∨ edit_Parse.f raw = some ([],0,0,0,90):=by
 cases raw with
 | nil=>exact .inr rfl
 | cons h t =>
  have u0 : U64 0:=⟨by decide,by decide⟩
  obtain ⟨s,h1,hs⟩:=runP_any h 4 0 ([],0,0,0,t,false) ⟨⟨fun m hm=>(by cases hm),u0,u0,u0⟩,hb.tail,by show t.length < big;rw [List.length_cons] at hl;omega⟩
  obtain ⟨l,a,b,c,r,bad⟩:=s
  have hw : WfE l a b c:=hs.1
  cases hr : rightB l a b c with
  | false =>
   right
   unfold edit_Parse.f
   simp only
   refine bind1 h1 (bind1 (ebytes_no hr hw) ?_)
   exact if_pos (.inr (.inl (by decide)))
  | true =>
   by_cases hq : bad = true ∨ formE l a b c ≠ h :: t
   ·right
    unfold edit_Parse.f
    simp only
    refine bind1 h1 (bind1 (ebytes_yes hr hw) ?_)
    refine if_pos ?_
    rcases hq with hq|hq
    ·exact .inl hq
    ·exact .inr (.inr (by rw [sameB_eq (formE_by l a b c) hb];exact decide_eq_false hq))
   ·left
    have hq1 : bad = false:=Bool.eq_false_iff.2 (fun e=>hq (.inl e))
    have hq2 : formE l a b c = h :: t:=Classical.byContradiction (fun e=>hq (.inr e))
    refine ⟨l,a,b,c,hr,hw,hq2.symm,?_⟩
    unfold edit_Parse.f
    simp only
    refine bind1 h1 (bind1 (ebytes_yes hr hw) ?_)
    refine if_neg ?_
    rintro (e|e|e)
    ·rw [hq1] at e;cases e
    ·exact e rfl
    ·rw [sameB_eq (formE_by l a b c) hb,decide_eq_true hq2] at e;cases e

end Go.Proofs.YtcagajobpnpicaaL

end

section
namespace Go.Proofs.Ytcagajobpnpicaa.P
open Go.RowKit Go.Proofs.YtcagajobpnpicaaG Go.Proofs.YtcagajobpnpicaaW.PrintWords Go.Proofs.YtcagajobpnpicaaW.PrintLast Go.Proofs.YtcagajobpnpicaaW.PrintMore
attribute [local go_sem] str_gtr str_geq str_leq max2_int min2_int max_two min_two max_three min_three max_four min_four   -- for this text's walks alone
set_option linter.unusedVariables false
set_option linter.unusedSimpArgs false

def ratlineref09_reader_num.f (k : Nat) (l0_0 : List Int) (a0_1 : Bool) : Option (Int × List Int × Bool):=(ratlineref02_Take.f k l0_0).bind fun bt180 => (if a0_1 = true then (some (bt180.1,bt180.2.1,true)) else (some (bt180.1,bt180.2.1,!bt180.2.2)))
set_option maxHeartbeats 8000000 in
set_option maxRecDepth 100000 in
theorem ratlineref09_reader_num.calls (k : Nat) (A0_0 : Option Addr) (c0_0 : Nat) (l0_0 : List Int) (a0_1 : Bool) (r1 : Int) (r2 : List Int) (r3 : Bool) (w : World) (hr0_0 : Kd.C (Kd.int .u8) w A0_0 l0_0.length l0_0) (hc0_0 : l0_0.length ≤ c0_0) (h : ratlineref09_reader_num.f k l0_0 a0_1 = some (r1,r2,r3)) :
  Calls Try.prog 36 #[.agg #[.slice A0_0 l0_0.length c0_0,.bool a0_1]] w fun e w' => ∃ v1_ : Value,e = .returned (.tuple #[.int .u64 r1,.agg #[v1_,.bool r3]]) ∧ Kd.R (Kd.int .u8) 5 w' w.heap.size (fun _ => True) v1_ r2 ∧ Below w.heap.size w w':=by
 have hu72:=Try.underlying72
 have HR0_0:=Aside0.mk hr0_0
 have HC0_0:=Aside0.mk hc0_0
 clear hr0_0 hc0_0
 have HB:=Aside0.mk (Below.refl w.heap.size w)
 have H : ((ratlineref02_Take.f k l0_0).bind fun bt180 => (if a0_1 = true then (some (bt180.1,bt180.2.1,true)) else (some (bt180.1,bt180.2.1,!bt180.2.2)))) = some (r1,r2,r3):=h
 clear h
 replace H:=Option.bind_eq_some_iff.mp H
 obtain ⟨⟨t180,t181,t182⟩,A20,H⟩:=H
 replace H : (if a0_1 = true then (some (t180,t181,true)) else (some (t180,t181,!t182))) = some (r1,r2,r3):=H
 have A2:=Aside0.mk A20
 clear A20
 by_cases c3 : a0_1 = true
 ·subst c3
  have H1 : (some (t180,t181,true)) = some (r1,r2,r3):=by rw [if_pos rfl] at H;exact H
  clear H
  have H:=H1
  clear H1
  simp only [Option.some.injEq,Prod.mk.injEq] at H
  obtain ⟨rfl,rfl,rfl⟩:=H
  go_enter Try.func36,Try.ntmps36
  go_wp2_with (first|((with_reducible refine gate_dst (N:=1) rfl ?_);refine box_event ?hg (N:=1) ?hd (cs:=#[.slice A0_0 l0_0.length c0_0,.bool true]) (t:=72) ?hr ?_;(case hd => rfl);(case hg => rfl);(case hr => first|(go_simp;done)|(go_simp;rfl));intro gb178 hg w4 hbox hb;have n0_:=Aside0.mk (below_step (by repeat (first|(with_reducible first|exact HB.out|apply below_alloc|apply pw_below_drewN|apply below_drew1)|exact HB.out)) hb);have n1_:=Aside0.mk (hbox);have n2_:=Aside0.mk ((by rw [hg];exact (below_size (by repeat (first|(with_reducible first|exact HB.out|apply below_alloc|apply pw_below_drewN|apply below_drew1)|exact HB.out))) : w.heap.size ≤ gb178));have n3_:=Aside0.mk ((by rw [hg];exact (below_size (by repeat (first|(with_reducible first|exact HB.out|apply below_alloc|apply pw_below_drewN|apply below_drew1)|exact HB.out))) : w.heap.size ≤ gb178));clear HB;have HB:=n0_;have BK178:=n1_;have GW178:=n2_;have GE178:=n3_;clear n0_ n1_ n2_ n3_;clear hb hbox hg)|((with_reducible refine gate_dst (N:=3) rfl ?_);refine box_event ?hg (N:=3) ?hd (cs:=#[.slice none 0 0,.bool false]) (t:=72) ?hr ?_;(case hd => rfl);(case hg => rfl);(case hr => first|(go_simp;done)|(go_simp;rfl));intro gb179 hg w5 hbox hb;have n0_:=Aside0.mk (blk_below (g:=gb178) (o:=.cells #[.slice A0_0 l0_0.length c0_0,.bool true] 72 (0,0)) (by (with_reducible repeat (first|refine bN ?_ _|refine bD ?_|refine bA ?_ _));exact BK178.out) hb);have n1_:=Aside0.mk (below_step (by repeat (first|(with_reducible first|exact HB.out|apply below_alloc|apply pw_below_drewN|apply below_drew1|refine below_set ?_ GE178.out)|exact HB.out)) hb);have n2_:=Aside0.mk (hbox);have n3_:=Aside0.mk ((by rw [hg];exact (below_size (by repeat (first|(with_reducible first|exact HB.out|apply below_alloc|apply pw_below_drewN|apply below_drew1|refine below_set ?_ GE178.out)|exact HB.out))) : w.heap.size ≤ gb179));have n4_:=Aside0.mk ((by rw [hg];exact (below_size (by repeat (first|(with_reducible first|exact HB.out|apply below_alloc|apply pw_below_drewN|apply below_drew1|refine below_set ?_ GE178.out)|exact HB.out))) : w.heap.size ≤ gb179));have n5_:=Aside0.mk ((by rw [hg];exact Nat.ne_of_lt (blk_lt (g:=gb178) (o:=.cells #[.slice A0_0 l0_0.length c0_0,.bool true] 72 (0,0)) (by (with_reducible repeat (first|refine bN ?_ _|refine bD ?_|refine bA ?_ _));exact BK178.out)) : gb178 ≠ gb179));have n6_:=Aside0.mk ((by rw [hg];exact Nat.ne_of_gt (blk_lt (g:=gb178) (o:=.cells #[.slice A0_0 l0_0.length c0_0,.bool true] 72 (0,0)) (by (with_reducible repeat (first|refine bN ?_ _|refine bD ?_|refine bA ?_ _));exact BK178.out)) : gb179 ≠ gb178));clear BK178;clear HB;have BK178:=n0_;have HB:=n1_;have BK179:=n2_;have GW179:=n3_;have GE179:=n4_;have NB178_179:=n5_;have NB179_178:=n6_;clear n0_ n1_ n2_ n3_ n4_ n5_ n6_;clear hb hbox hg;have hnb6:=NB178_179.out;have hnc6:=NB179_178.out;have hcz7_0 : w5.cell? ⟨gb178,0,none⟩ = some (.slice A0_0 l0_0.length c0_0):=(blk_cell BK178.out 0).trans rfl;have hcz7_1 : w5.cell? ⟨gb178,1,none⟩ = some (.bool true):=(blk_cell BK178.out 1).trans rfl;have hfz7_0:=blk_frozen BK178.out 0;have hfz7_1:=blk_frozen BK178.out 1)|((with_reducible refine gate_callee (f:=53) rfl ?_);refine goesL_ (some 10) rfl rfl Try.func53 (by kernel_rfl) rfl #[.slice A0_0 l0_0.length c0_0] rfl (by (try simp only [List.map_toArray,List.map_cons,List.map_nil]);first|done|rfl|(simp only [List.length_drop,List.length_take];rfl)) ?_;(with_reducible refine (ratlineref02_Take.calls k _ _ l0_0 t180 t181 t182 _ ?side1 ?side2 A2.out).mono ?_);(case side1 => repeat (first|exact (Kd.C_below HR0_0.out HB.out)|(with_reducible refine Kd.C_alloc ?_ _)|(with_reducible refine Kd.C_drewN ?_ _)|(with_reducible refine Kd.C_drew ?_)));(case side2 => exact HC0_0.out);rintro e w8 ⟨v183,rfl,ho0,hb⟩;refine ⟨_,rfl,?_⟩;have n0_:=Aside0.mk (Kd.R_lower ho0 (below_size (by repeat (first|(with_reducible first|exact HB.out|apply below_alloc|apply pw_below_drewN|apply below_drew1|refine below_set ?_ GE178.out|refine below_set ?_ GE179.out)|exact HB.out))));have n1_:=Aside0.mk (blk_below (g:=gb178) (o:=.cells #[.slice A0_0 l0_0.length c0_0,.bool true] 72 (0,0)) (by (with_reducible repeat (first|refine bN ?_ _|refine bD ?_|refine bA ?_ _));exact BK178.out) hb);have n2_:=Aside0.mk (blk_below (g:=gb179) (o:=.cells #[.slice none 0 0,.bool false] 72 (0,0)) (by (with_reducible repeat (first|refine bN ?_ _|refine bD ?_|refine bA ?_ _));exact BK179.out) hb);have n3_:=Aside0.mk (below_step (by repeat (first|(with_reducible first|exact HB.out|apply below_alloc|apply pw_below_drewN|apply below_drew1|refine below_set ?_ GE178.out|refine below_set ?_ GE179.out)|exact HB.out)) hb);clear BK178;clear BK179;clear HB;have HO184:=n0_;have BK178:=n1_;have BK179:=n2_;have HB:=n3_;clear n0_ n1_ n2_ n3_;(try clear hb);(try clear hb2);(try clear hk);(try clear hi);(try clear ho0);have hcz9_0 : w8.cell? ⟨gb178,0,none⟩ = some (.slice A0_0 l0_0.length c0_0):=(blk_cell BK178.out 0).trans rfl;have hcz9_1 : w8.cell? ⟨gb178,1,none⟩ = some (.bool true):=(blk_cell BK178.out 1).trans rfl;have hfz9_0:=blk_frozen BK178.out 0;have hfz9_1:=blk_frozen BK178.out 1;obtain ⟨Ao10,co10,eo10⟩:=Kd.R_slice HO184.out;subst eo10;have hcz11_0 : w8.cell? ⟨gb179,0,none⟩ = some (.slice none 0 0):=(blk_cell BK179.out 0).trans rfl;have hcz11_1 : w8.cell? ⟨gb179,1,none⟩ = some (.bool false):=(blk_cell BK179.out 1).trans rfl;have hfz11_0:=blk_frozen BK179.out 0;have hfz11_1:=blk_frozen BK179.out 1))
  refine bodyPost_ret (results_tc rfl _ _ gb179 72 #[.slice Ao10 t181.length co10,.bool true] (0,0) _ rfl (by (with_reducible repeat (first|refine bN ?_ _|refine bD ?_|refine bA ?_ _));refine blk_put (cs:=#[.slice Ao10 t181.length co10,.bool false]) ?_ 1 _ rfl;(with_reducible repeat (first|refine bN ?_ _|refine bD ?_|refine bA ?_ _));refine blk_put (cs:=#[.slice none 0 0,.bool false]) ?_ 0 _ rfl;(with_reducible repeat (first|refine bN ?_ _|refine bD ?_|refine bA ?_ _));exact BK179.out) Try.underlying72 rfl (by kernel_rfl)) rfl ?_
  exact ⟨_,by first|rfl|(simp [errW_none,errW_some] <;> rfl)|(simp [*,errW_none,errW_some] <;> rfl),by (with_reducible repeat (first|apply zA|apply zN|apply zD));exact Kd.R_mono (Kd.R_far (p:=⟨gb179,1,none⟩) (Kd.R_far (p:=⟨gb179,0,none⟩) (Kd.R_types HO184.out BK179.out (by decide)) (fun _ hk => hk.2) (.slice Ao10 t181.length co10)) (fun _ hk => hk.2) (.bool true)) (fun _ hk => trivial),by repeat (first|(with_reducible first|exact HB.out|apply below_alloc|apply pw_below_drewN|apply below_drew1|refine below_set ?_ GE178.out|refine below_set ?_ GE179.out)|exact HB.out)⟩
 ·replace c3:=Bool.eq_false_iff.mpr c3
  subst c3
  have H1 : (some (t180,t181,!t182)) = some (r1,r2,r3):=by rw [if_neg (show ¬ (false = true) by decide)] at H;exact H
  clear H
  have H:=H1
  clear H1
  simp only [Option.some.injEq,Prod.mk.injEq] at H
  obtain ⟨rfl,rfl,rfl⟩:=H
  go_enter Try.func36,Try.ntmps36
  go_wp2_with (first|((with_reducible refine gate_dst (N:=1) rfl ?_);refine box_event ?hg (N:=1) ?hd (cs:=#[.slice A0_0 l0_0.length c0_0,.bool false]) (t:=72) ?hr ?_;(case hd => rfl);(case hg => rfl);(case hr => first|(go_simp;done)|(go_simp;rfl));intro gb178 hg w12 hbox hb;have n0_:=Aside0.mk (below_step (by repeat (first|(with_reducible first|exact HB.out|apply below_alloc|apply pw_below_drewN|apply below_drew1)|exact HB.out)) hb);have n1_:=Aside0.mk (hbox);have n2_:=Aside0.mk ((by rw [hg];exact (below_size (by repeat (first|(with_reducible first|exact HB.out|apply below_alloc|apply pw_below_drewN|apply below_drew1)|exact HB.out))) : w.heap.size ≤ gb178));have n3_:=Aside0.mk ((by rw [hg];exact (below_size (by repeat (first|(with_reducible first|exact HB.out|apply below_alloc|apply pw_below_drewN|apply below_drew1)|exact HB.out))) : w.heap.size ≤ gb178));clear HB;have HB:=n0_;have BK178:=n1_;have GW178:=n2_;have GE178:=n3_;clear n0_ n1_ n2_ n3_;clear hb hbox hg)|((with_reducible refine gate_dst (N:=3) rfl ?_);refine box_event ?hg (N:=3) ?hd (cs:=#[.slice none 0 0,.bool false]) (t:=72) ?hr ?_;(case hd => rfl);(case hg => rfl);(case hr => first|(go_simp;done)|(go_simp;rfl));intro gb179 hg w13 hbox hb;have n0_:=Aside0.mk (blk_below (g:=gb178) (o:=.cells #[.slice A0_0 l0_0.length c0_0,.bool false] 72 (0,0)) (by (with_reducible repeat (first|refine bN ?_ _|refine bD ?_|refine bA ?_ _));exact BK178.out) hb);have n1_:=Aside0.mk (below_step (by repeat (first|(with_reducible first|exact HB.out|apply below_alloc|apply pw_below_drewN|apply below_drew1|refine below_set ?_ GE178.out)|exact HB.out)) hb);have n2_:=Aside0.mk (hbox);have n3_:=Aside0.mk ((by rw [hg];exact (below_size (by repeat (first|(with_reducible first|exact HB.out|apply below_alloc|apply pw_below_drewN|apply below_drew1|refine below_set ?_ GE178.out)|exact HB.out))) : w.heap.size ≤ gb179));have n4_:=Aside0.mk ((by rw [hg];exact (below_size (by repeat (first|(with_reducible first|exact HB.out|apply below_alloc|apply pw_below_drewN|apply below_drew1|refine below_set ?_ GE178.out)|exact HB.out))) : w.heap.size ≤ gb179));have n5_:=Aside0.mk ((by rw [hg];exact Nat.ne_of_lt (blk_lt (g:=gb178) (o:=.cells #[.slice A0_0 l0_0.length c0_0,.bool false] 72 (0,0)) (by (with_reducible repeat (first|refine bN ?_ _|refine bD ?_|refine bA ?_ _));exact BK178.out)) : gb178 ≠ gb179));have n6_:=Aside0.mk ((by rw [hg];exact Nat.ne_of_gt (blk_lt (g:=gb178) (o:=.cells #[.slice A0_0 l0_0.length c0_0,.bool false] 72 (0,0)) (by (with_reducible repeat (first|refine bN ?_ _|refine bD ?_|refine bA ?_ _));exact BK178.out)) : gb179 ≠ gb178));clear BK178;clear HB;have BK178:=n0_;have HB:=n1_;have BK179:=n2_;have GW179:=n3_;have GE179:=n4_;have NB178_179:=n5_;have NB179_178:=n6_;clear n0_ n1_ n2_ n3_ n4_ n5_ n6_;clear hb hbox hg;have hnb14:=NB178_179.out;have hnc14:=NB179_178.out;have hcz15_0 : w13.cell? ⟨gb178,0,none⟩ = some (.slice A0_0 l0_0.length c0_0):=(blk_cell BK178.out 0).trans rfl;have hcz15_1 : w13.cell? ⟨gb178,1,none⟩ = some (.bool false):=(blk_cell BK178.out 1).trans rfl;have hfz15_0:=blk_frozen BK178.out 0;have hfz15_1:=blk_frozen BK178.out 1)|((with_reducible refine gate_callee (f:=53) rfl ?_);refine goesL_ (some 10) rfl rfl Try.func53 (by kernel_rfl) rfl #[.slice A0_0 l0_0.length c0_0] rfl (by (try simp only [List.map_toArray,List.map_cons,List.map_nil]);first|done|rfl|(simp only [List.length_drop,List.length_take];rfl)) ?_;(with_reducible refine (ratlineref02_Take.calls k _ _ l0_0 t180 t181 t182 _ ?side1 ?side2 A2.out).mono ?_);(case side1 => repeat (first|exact (Kd.C_below HR0_0.out HB.out)|(with_reducible refine Kd.C_alloc ?_ _)|(with_reducible refine Kd.C_drewN ?_ _)|(with_reducible refine Kd.C_drew ?_)));(case side2 => exact HC0_0.out);rintro e w16 ⟨v183,rfl,ho0,hb⟩;refine ⟨_,rfl,?_⟩;have n0_:=Aside0.mk (Kd.R_lower ho0 (below_size (by repeat (first|(with_reducible first|exact HB.out|apply below_alloc|apply pw_below_drewN|apply below_drew1|refine below_set ?_ GE178.out|refine below_set ?_ GE179.out)|exact HB.out))));have n1_:=Aside0.mk (blk_below (g:=gb178) (o:=.cells #[.slice A0_0 l0_0.length c0_0,.bool false] 72 (0,0)) (by (with_reducible repeat (first|refine bN ?_ _|refine bD ?_|refine bA ?_ _));exact BK178.out) hb);have n2_:=Aside0.mk (blk_below (g:=gb179) (o:=.cells #[.slice none 0 0,.bool false] 72 (0,0)) (by (with_reducible repeat (first|refine bN ?_ _|refine bD ?_|refine bA ?_ _));exact BK179.out) hb);have n3_:=Aside0.mk (below_step (by repeat (first|(with_reducible first|exact HB.out|apply below_alloc|apply pw_below_drewN|apply below_drew1|refine below_set ?_ GE178.out|refine below_set ?_ GE179.out)|exact HB.out)) hb);clear BK178;clear BK179;clear HB;have HO184:=n0_;have BK178:=n1_;have BK179:=n2_;have HB:=n3_;clear n0_ n1_ n2_ n3_;(try clear hb);(try clear hb2);(try clear hk);(try clear hi);(try clear ho0);have hcz17_0 : w16.cell? ⟨gb178,0,none⟩ = some (.slice A0_0 l0_0.length c0_0):=(blk_cell BK178.out 0).trans rfl;have hcz17_1 : w16.cell? ⟨gb178,1,none⟩ = some (.bool false):=(blk_cell BK178.out 1).trans rfl;have hfz17_0:=blk_frozen BK178.out 0;have hfz17_1:=blk_frozen BK178.out 1;obtain ⟨Ao18,co18,eo18⟩:=Kd.R_slice HO184.out;subst eo18;have hcz19_0 : w16.cell? ⟨gb179,0,none⟩ = some (.slice none 0 0):=(blk_cell BK179.out 0).trans rfl;have hcz19_1 : w16.cell? ⟨gb179,1,none⟩ = some (.bool false):=(blk_cell BK179.out 1).trans rfl;have hfz19_0:=blk_frozen BK179.out 0;have hfz19_1:=blk_frozen BK179.out 1))
  refine bodyPost_ret (results_tc rfl _ _ gb179 72 #[.slice Ao18 t181.length co18,.bool (!t182)] (0,0) _ rfl (by (with_reducible repeat (first|refine bN ?_ _|refine bD ?_|refine bA ?_ _));refine blk_put (cs:=#[.slice Ao18 t181.length co18,.bool false]) ?_ 1 _ rfl;(with_reducible repeat (first|refine bN ?_ _|refine bD ?_|refine bA ?_ _));refine blk_put (cs:=#[.slice none 0 0,.bool false]) ?_ 0 _ rfl;(with_reducible repeat (first|refine bN ?_ _|refine bD ?_|refine bA ?_ _));exact BK179.out) Try.underlying72 rfl (by kernel_rfl)) rfl ?_
  exact ⟨_,by first|rfl|(simp [errW_none,errW_some] <;> rfl)|(simp [*,errW_none,errW_some] <;> rfl),by (with_reducible repeat (first|apply zA|apply zN|apply zD));exact Kd.R_mono (Kd.R_far (p:=⟨gb179,1,none⟩) (Kd.R_far (p:=⟨gb179,0,none⟩) (Kd.R_types HO184.out BK179.out (by decide)) (fun _ hk => hk.2) (.slice Ao18 t181.length co18)) (fun _ hk => hk.2) (.bool (!t182))) (fun _ hk => trivial),by repeat (first|(with_reducible first|exact HB.out|apply below_alloc|apply pw_below_drewN|apply below_drew1|refine below_set ?_ GE178.out|refine below_set ?_ GE179.out)|exact HB.out)⟩

end Go.Proofs.Ytcagajobpnpicaa.P

end

section
set_option linter.unusedVariables false
set_option linter.unusedSimpArgs false
namespace Go.Proofs.YtcagajobpnpicaaH
open Go Go.RowKit Go.Proofs.YtcagajobpnpicaaR Go.Proofs.YtcagajobpnpicaaG Go.Proofs.YtcagajobpnpicaaL Go.Proofs.Ytcagajobpnpicaa.P Go.Proofs.YtcagajobpnpicaaW.PrintWords
attribute [local go_sem] str_gtr str_geq

/-- The reader's block: the bytes that are left, and whether they said something else. -/
def Rd (r : Nat) (ok : Nat → Prop) (w : World) (l : List Int) (bad : Bool) : Prop :=
 ∃ A c,w.heap[r]? = some (.cells #[.slice A l.length c,.bool bad] 72) ∧ l.length ≤ c ∧ Fb w ok A l
section
variable {r : Nat} {ok ok' : Nat → Prop} {w w' w1 : World} {l l1 : List Int} {bad bad1 : Bool}
theorem Rd.lt (h : Rd r ok w l bad) : r < w.heap.size:=by obtain ⟨A,c,h1,_⟩:=h;exact blk_lt h1
theorem Rd.mono (h : Rd r ok w l bad) (hok : ∀ k,ok k → ok' k) : Rd r ok' w l bad:=by
 obtain ⟨A,c,h1,h2,h3⟩:=h
 exact ⟨A,c,h1,h2,Kd.F_mono h3 hok⟩
theorem Rd.keep (h : Rd r ok w l bad) (hb : Below w.heap.size w w') : Rd r (fun k=>ok k ∧ k < w.heap.size) w' l bad:=by
 obtain ⟨A,c,h1,h2,h3⟩:=h
 exact ⟨A,c,(hb.block r (blk_lt h1)).trans h1,h2,Kd.F_old h3 hb⟩
theorem Rd.far (h : Rd r ok w l bad) {p : Addr} (hp : p.block ≠ r) (hok : ∀ k,ok k → k ≠ p.block) (u : Value) : Rd r ok (w.setCell p u) l bad:=by
 obtain ⟨A,c,h1,h2,h3⟩:=h
 exact ⟨A,c,blk_far h1 (fun e=>hp e.symm) u,h2,Kd.F_far h3 hok u⟩
/-- Behind one thing taken. -/
theorem Rd.put {A1 : Option Addr} {c1 : Nat} (h : Rd r ok w l bad) (hok : ∀ k,ok k → k ≠ r) (hb : Below w.heap.size w w1) (hl : l1.length ≤ c1) (hC : Fb w1 (orNew ok w) A1 l1) :
  Stays (· = r) w ((w1.setCell ⟨r,0,none⟩ (.slice A1 l1.length c1)).setCell ⟨r,1,none⟩ (.bool bad1)) ∧ Rd r (orNew ok w) ((w1.setCell ⟨r,0,none⟩ (.slice A1 l1.length c1)).setCell ⟨r,1,none⟩ (.bool bad1)) l1 bad1:=by
 obtain ⟨A,c,h1,h2,h3⟩:=h
 have hr:=blk_lt h1
 have hb1:=(hb.block r hr).trans h1
 have hne : ∀ k,orNew ok w k → k ≠ r:=fun k hk=>hk.elim (hok k) (fun h=>by omega)
 refine ⟨(Stays.of_below hb).trans ((Stays.setCell (C:=(· = r)) (p:=⟨r,0,none⟩) rfl _).trans (Stays.setCell (C:=(· = r)) (p:=⟨r,1,none⟩) rfl _)),A1,c1,?_,hl,?_⟩
 ·have e1:=blk_set hb1 0 (.slice A1 l1.length c1)
  have e2:=blk_set e1 1 (.bool bad1)
  exact e2
 ·exact Kd.F_far (p:=⟨r,1,none⟩) (Kd.F_far (p:=⟨r,0,none⟩) hC hne _) hne _
end/-- A round's state: the reader, the row of notes, the note that is made, the edit's box. -/
structure Acc (base r g gm : Nat) (ok : Nat → Prop) (v : Value) (out : List MetaS) (mc : Array Value) (a1 a2 a3 : Int) (b : List Int) (bad : Bool) (W : World) : Prop where
 rd : Rd r (fun k=>(ok k ∨ base ≤ k) ∧ k ≠ gm ∧ some k ≠ v.ownBlock) W b bad
 row : Kd.R k58 58 W base (fun k=>k ≠ r ∧ k ≠ g ∧ k ≠ gm) v out
 mb : W.heap[gm]? = some (.cells mc 58)
 bx : W.heap[g]? = some (eBx v a1 a2 a3)
 hok : ∀ k,ok k → k ≠ r ∧ k ≠ g
 lt : r < base ∧ g < base ∧ base ≤ gm ∧ g ≠ r
section
variable {base r g gm : Nat} {ok : Nat → Prop} {v : Value} {out : List MetaS} {mc mc' : Array Value} {a1 a2 a3 : Int} {b b' : List Int} {bad bad' : Bool} {W W' : World}
theorem Acc.ne (h : Acc base r g gm ok v out mc a1 a2 a3 b bad W) : ∀ k,((ok k ∨ base ≤ k) ∧ k ≠ gm ∧ some k ≠ v.ownBlock) → k ≠ r:=fun k hk=>hk.1.elim (fun h1=>(h.hok k h1).1) (fun h1=>by have:=h.lt.1;omega)
theorem Acc.after (h : Acc base r g gm ok v out mc a1 a2 a3 b bad W) (hS : Stays (· = r) W W') (hR : Rd r (orNew (fun k=>(ok k ∨ base ≤ k) ∧ k ≠ gm ∧ some k ≠ v.ownBlock) W) W' b' bad') : Acc base r g gm ok v out mc a1 a2 a3 b' bad' W':=by
 have hgm:=blk_lt h.mb
 have hv:=Kd.R_lt h.row
 refine ⟨hR.mono (fun k hk=>hk.elim (fun h=>h) (fun h1=>⟨.inr (by have:=h.lt.2.2.1;omega),by omega,fun e=>by have:=hv k e.symm;omega⟩)),Kd.R_step h.row (fun k hk hlt=>hS.block k hlt hk.1),(hS.block gm hgm (by have:=h.lt;omega)).trans h.mb,(hS.block g (blk_lt h.bx) h.lt.2.2.2).trans h.bx,h.hok,h.lt⟩
theorem Acc.set (h : Acc base r g gm ok v out mc a1 a2 a3 b bad W) (j : Nat) (u : Value) (e : mc.setIfInBounds j u = mc') : Acc base r g gm ok v out mc' a1 a2 a3 b bad (W.setCell ⟨gm,j,none⟩ u) :=
 ⟨h.rd.far (p:=⟨gm,j,none⟩) (by show gm ≠ r;have:=h.lt;omega) (fun k hk=>hk.2.1) u,Kd.R_far (p:=⟨gm,j,none⟩) h.row (fun k hk=>hk.2.2) u,blk_put h.mb j u e,blk_far (p:=⟨gm,j,none⟩) h.bx (by show g ≠ gm;have:=h.lt;omega) u,h.hok,h.lt⟩
end
theorem Rd.after {r : Nat} {ok : Nat → Prop} {W W1 : World} {l : List Int} {bad : Bool} {v v1 : Value} (h : Rd r (fun k=>ok k ∧ some k ≠ v.ownBlock) W l bad) (hg : W.grownBy W1 v.ownBlock) (hr : some r ≠ v.ownBlock) (hat : v1.ownBlock = v.ownBlock ∨ ∃ b,v1.ownBlock = some b ∧ W.heap.size ≤ b) : Rd r (fun k=>ok k ∧ some k ≠ v1.ownBlock) W1 l bad:=by
 obtain ⟨A,c,h1,h2,h3⟩:=h
 exact ⟨A,c,blk_grown h1 hg hr,h2,Kd.F_after h3 hg hat⟩
/-- What a loop's round begins with. -/
structure Beg (base r g : Nat) (ok : Nat → Prop) (v : Value) (out : List MetaS) (a1 a2 a3 : Int) (b : List Int) (bad : Bool) (W : World) : Prop where
 rd : Rd r (fun k=>(ok k ∨ base ≤ k) ∧ some k ≠ v.ownBlock) W b bad
 row : Kd.R k58 58 W base (fun _=>True) v out
 bx : W.heap[g]? = some (eBx v a1 a2 a3)
 hok : ∀ k,ok k → k ≠ r ∧ k ≠ g
 lt : r < base ∧ g < base ∧ base ≤ W.heap.size ∧ g ≠ r
section
variable {base r g : Nat} {ok : Nat → Prop} {v : Value} {out : List MetaS} {a1 a2 a3 : Int} {b b' : List Int} {bad bad' : Bool} {W W' : World}
theorem Beg.ne (h : Beg base r g ok v out a1 a2 a3 b bad W) : ∀ k,((ok k ∨ base ≤ k) ∧ some k ≠ v.ownBlock) → k ≠ r:=fun k hk=>hk.1.elim (fun h1=>(h.hok k h1).1) (fun h1=>by have:=h.lt.1;omega)
theorem Beg.start (h : Beg base r g ok v out a1 a2 a3 b bad W) (hS : Stays (· = r) W W') (hR : Rd r (orNew (fun k=>(ok k ∨ base ≤ k) ∧ some k ≠ v.ownBlock) W) W' b' bad') (mc : Array Value) : Acc base r g W'.heap.size ok v out mc a1 a2 a3 b' bad' (W'.alloc (.cells mc 58)):=by
 have hv:=Kd.R_lt h.row
 have hB : Below W'.heap.size W' (W'.alloc (.cells mc 58)):=below_alloc (Below.refl _ _) _
 have hsz:=hS.size
 have hlt:=h.lt
 have h1:=Kd.R_step (w1:=W') (Kd.R_mono (ok':=fun k=>k ≠ r ∧ k ≠ g) (Kd.R_bound h.row) (fun k hk=>⟨by have:=hk.2.1;omega,by have:=hk.2.1;omega⟩)) (fun k hk hl=>hS.block k hl hk.1)
 refine ⟨(hR.keep hB).mono (fun k hk=>?_),Kd.R_mono (Kd.R_alloc (Kd.R_bound h1) _) (fun k hk=>⟨hk.1.1,hk.1.2,by have:=hk.2.2.1;omega⟩),World.alloc_heap_new W' _,(hB.block g (by have:=blk_lt h.bx;omega)).trans ((hS.block g (blk_lt h.bx) hlt.2.2.2).trans h.bx),h.hok,⟨hlt.1,hlt.2.1,by omega,hlt.2.2.2⟩⟩
 rcases hk.1 with h2|h2
 ·exact ⟨h2.1,by have:=hk.2;omega,h2.2⟩
 ·exact ⟨.inr (by omega),by have:=hk.2;omega,fun e=>by have:=hv k e.symm;omega⟩
end
theorem Beg.below {base r g : Nat} {ok : Nat → Prop} {v : Value} {out : List MetaS} {a1 a2 a3 : Int} {b : List Int} {bad : Bool} {W W' : World} (h : Beg base r g ok v out a1 a2 a3 b bad W) (hb : Below W.heap.size W W') : Beg base r g ok v out a1 a2 a3 b bad W' :=
 ⟨(h.rd.keep hb).mono (fun k hk=>hk.1),Kd.R_below h.row hb,(hb.block g (blk_lt h.bx)).trans h.bx,h.hok,⟨h.lt.1,h.lt.2.1,Nat.le_trans h.lt.2.2.1 hb.size,h.lt.2.2.2⟩⟩
/-- The reader's box is written: what was left of the bytes, as a row of the call's own. -/
theorem Beg.put {base r g : Nat} {ok : Nat → Prop} {v : Value} {out : List MetaS} {a1 a2 a3 : Int} {b b' : List Int} {bad bad' : Bool} {W W2 : World} {A2 : Option Addr} {c2 : Nat} (h : Beg base r g ok v out a1 a2 a3 b bad W) (hb : Below W.heap.size W W2) (hl : b'.length ≤ c2) (hF : Fb W2 (orNew (fun _=>False) W) A2 b') :
  Beg base r g ok v out a1 a2 a3 b' bad' ((W2.setCell ⟨r,0,none⟩ (.slice A2 b'.length c2)).setCell ⟨r,1,none⟩ (.bool bad')):=by
 obtain ⟨hS,hR⟩:=h.rd.put (bad1:=bad') h.ne hb hl (Kd.F_mono hF (fun k hk=>hk.elim (fun h=>h.elim) .inr))
 have hv:=Kd.R_lt h.row
 have hlt:=h.lt
 exact ⟨hR.mono (fun k hk=>hk.elim id (fun h1=>⟨.inr (by omega),fun e=>by have:=hv k e.symm;omega⟩)),Kd.R_mono (Kd.R_step (w1:=(W2.setCell ⟨r,0,none⟩ (.slice A2 b'.length c2)).setCell ⟨r,1,none⟩ (.bool bad')) (Kd.R_mono (ok':=fun k=>k ≠ r) (Kd.R_bound h.row) (fun k hk=>by have:=hk.2.1;omega)) (fun k hk hl=>hS.block k hl hk)) (fun _ _=>trivial),(hS.block g (blk_lt h.bx) hlt.2.2.2).trans h.bx,h.hok,⟨hlt.1,hlt.2.1,Nat.le_trans hlt.2.2.1 hS.size,hlt.2.2.2⟩⟩
theorem Beg.num {base r g : Nat} {ok : Nat → Prop} {v : Value} {out : List MetaS} {a1 a2 a3 e1 e2 e3 : Int} {b b' : List Int} {bad bad' : Bool} {W W2 : World} {A2 : Option Addr} {c2 : Nat} (h : Beg base r g ok v out a1 a2 a3 b bad W) (hb : Below W.heap.size W W2) (hl : b'.length ≤ c2) (hF : Fb W2 (orNew (fun _=>False) W) A2 b') (j : Nat) (u : Value) (e : #[v,.int .u64 a1,.int .u64 a2,.int .u64 a3].setIfInBounds j u = #[v,.int .u64 e1,.int .u64 e2,.int .u64 e3]) :
  Beg base r g ok v out e1 e2 e3 b' bad' (((W2.setCell ⟨g,j,none⟩ u).setCell ⟨r,0,none⟩ (.slice A2 b'.length c2)).setCell ⟨r,1,none⟩ (.bool bad')):=by
 have hv:=Kd.R_lt h.row
 have hlt:=h.lt
 have h2:=h.below hb
 have hF2 : Fb (W2.setCell ⟨g,j,none⟩ u) (orNew (fun _=>False) W) A2 b':=Kd.F_far (p:=⟨g,j,none⟩) hF (fun k hk=>by have:=hk.elim (fun h=>h.elim) id;show k ≠ g;omega) u
 have h3 : Beg base r g ok v out e1 e2 e3 b bad (W2.setCell ⟨g,j,none⟩ u) :=
  ⟨h2.rd.far (p:=⟨g,j,none⟩) (by show g ≠ r;omega) (fun k hk=>by show k ≠ g;exact hk.1.elim (fun h1=>(h.hok k h1).2) (fun h1=>by omega)) u,Kd.R_mono (Kd.R_far (p:=⟨g,j,none⟩) (Kd.R_mono (ok':=fun k=>k ≠ g) (Kd.R_bound h2.row) (fun k hk=>by have:=hk.2.1;omega)) (fun k hk=>hk) u) (fun _ _=>trivial),blk_put h2.bx j u e,h.hok,⟨hlt.1,hlt.2.1,by have:=h2.lt.2.2.1;simpa [World.setCell] using this,hlt.2.2.2⟩⟩
 obtain ⟨hS,hR⟩:=h3.rd.put (bad1:=bad') h3.ne (Below.refl _ _) hl (Kd.F_mono hF2 (fun k hk=>.inl ⟨.inr (by have:=hk.elim (fun h=>h.elim) id;omega),fun e=>by have:=hv k e.symm;have:=hk.elim (fun h=>h.elim) id;omega⟩))
 have hv3:=Kd.R_lt h3.row
 exact ⟨hR.mono (fun k hk=>hk.elim id (fun h1=>⟨.inr (by have:=h3.lt.2.2.1;omega),fun e=>by have:=hv3 k e.symm;omega⟩)),Kd.R_mono (Kd.R_step (w1:=((W2.setCell ⟨g,j,none⟩ u).setCell ⟨r,0,none⟩ (.slice A2 b'.length c2)).setCell ⟨r,1,none⟩ (.bool bad')) (Kd.R_mono (ok':=fun k=>k ≠ r) (Kd.R_bound h3.row) (fun k hk=>by have:=hk.2.1;omega)) (fun k hk hl=>hS.block k hl hk)) (fun _ _=>trivial),(hS.block g (blk_lt h3.bx) hlt.2.2.2).trans h3.bx,h.hok,⟨hlt.1,hlt.2.1,Nat.le_trans h3.lt.2.2.1 hS.size,hlt.2.2.2⟩⟩
theorem Acc.num {base r g gm : Nat} {ok : Nat → Prop} {v : Value} {out : List MetaS} {mc mc' : Array Value} {a1 a2 a3 : Int} {b b' : List Int} {bad bad' : Bool} {W W2 : World} {A2 : Option Addr} {c2 : Nat} (h : Acc base r g gm ok v out mc a1 a2 a3 b bad W) (hb : Below W.heap.size W W2) (hl : b'.length ≤ c2) (hF : Fb W2 (orNew (fun _=>False) W) A2 b') (j : Nat) (u : Value) (e : mc.setIfInBounds j u = mc') :
  Acc base r g gm ok v out mc' a1 a2 a3 b' bad' (((W2.setCell ⟨gm,j,none⟩ u).setCell ⟨r,0,none⟩ (.slice A2 b'.length c2)).setCell ⟨r,1,none⟩ (.bool bad')) ∧ Kd.C (Kd.int .u8) (((W2.setCell ⟨gm,j,none⟩ u).setCell ⟨r,0,none⟩ (.slice A2 b'.length c2)).setCell ⟨r,1,none⟩ (.bool bad')) A2 b'.length b' ∧ (((W2.setCell ⟨gm,j,none⟩ u).setCell ⟨r,0,none⟩ (.slice A2 b'.length c2)).setCell ⟨r,1,none⟩ (.bool bad')).heap[r]? = some (.cells #[.slice A2 b'.length c2,.bool bad'] 72):=by
 have hgm:=blk_lt h.mb
 have hv:=Kd.R_lt h.row
 have hlt:=h.lt
 have h2:=h.after (W':=W2) (Stays.of_below hb) ((h.rd.keep hb).mono (fun k hk=>.inl hk.1))
 have h3:=h2.set j u e
 have hF2 : Fb (W2.setCell ⟨gm,j,none⟩ u) (orNew (fun _=>False) W) A2 b':=Kd.F_far (p:=⟨gm,j,none⟩) hF (fun k hk=>by have:=hk.elim (fun h=>h.elim) id;show k ≠ gm;omega) u
 obtain ⟨hS,hR⟩:=h3.rd.put (bad1:=bad') h3.ne (Below.refl _ _) hl (Kd.F_mono hF2 (fun k hk=>.inl ⟨.inr (by have:=hk.elim (fun h=>h.elim) id;omega),by have:=hk.elim (fun h=>h.elim) id;omega,fun e=>by have:=hv k e.symm;have:=hk.elim (fun h=>h.elim) id;omega⟩))
 exact ⟨h3.after hS hR,Kd.F_now (Kd.F_far (p:=⟨r,1,none⟩) (Kd.F_far (p:=⟨r,0,none⟩) hF2 (fun k hk=>by have:=hk.elim (fun h=>h.elim) id;show k ≠ r;omega) _) (fun k hk=>by have:=hk.elim (fun h=>h.elim) id;show k ≠ r;omega) _),by
  obtain ⟨A9,c9,hb9,_,_⟩:=h3.rd
  exact blk_set (blk_set hb9 0 (.slice A2 b'.length c2)) 1 (.bool bad')⟩
theorem take_by {l : List Int} {x : Int} {r : List Int} {ok : Bool} (hb : By l) (hl : l.length < big) (h : nums_Take.f l = some (x,r,ok)) : U64 x ∧ By r ∧ r.length ≤ l.length:=by
 obtain ⟨x1,r1,k1,h1,u1,b1,l1⟩:=take_any l hb hl
 rw [h] at h1
 simp only [Option.some.injEq,Prod.mk.injEq] at h1
 obtain ⟨rfl,rfl,rfl⟩:=h1
 exact ⟨u1,b1,l1⟩
theorem text_by {l : List Int} {x : ByteArray} {r : List Int} {ok : Bool} (hb : By l) (hl : l.length < big) (h : nums_TakeText.f l 64 = some (x,r,ok)) : By r ∧ r.length ≤ l.length:=by
 obtain ⟨x1,r1,k1,h1,b1,l1⟩:=text_any l hb hl
 rw [h] at h1
 simp only [Option.some.injEq,Prod.mk.injEq] at h1
 obtain ⟨rfl,rfl,rfl⟩:=h1
 exact ⟨b1,l1⟩
theorem addL_stop {m : Nat} {n : Int} {out : List MetaS} {b : List Int} {bad : Bool} (h : ¬ 0 < n ∨ bad = true ∨ m = 0) : addL m n out b bad = some (out,b,bad):=by
 cases m with
 | zero=>rfl
 | succ m =>
  rw [addL]
  by_cases hn : 0 < n
  ·rw [if_pos hn]
   rcases h with h|h|h
   ·exact absurd hn h
   ·rw [if_pos h,h]
   ·cases h
  ·rw [if_neg hn]
theorem Fb.fresh {W W2 : World} {v : Value} {b : List Int} (h : Kd.R (Kd.int .u8) 5 W2 W.heap.size (fun _=>True) v b) : ∃ A c,v = .slice A b.length c ∧ b.length ≤ c ∧ Fb W2 (orNew (fun _=>False) W) A b:=new_reads _ h
theorem rnum_f {l : List Int} {bad : Bool} {x : Int} {r : List Int} {ok : Bool} (hb : By l) (hl : l.length < big) (h : nums_Take.f l = some (x,r,ok)) : ratlineref09_reader_num.f 51 l bad = some (x,r,bad || !ok):=by
 unfold big at hl
 unfold ratlineref09_reader_num.f
 rw [rtake_f hb (by omega) (by omega),h,Option.bind_some]
 cases bad <;> rfl
theorem rtext_f {l : List Int} {bad : Bool} {x : ByteArray} {r : List Int} {ok : Bool} (hb : By l) (hl : l.length < big) (h : nums_TakeText.f l 64 = some (x,r,ok)) : ratlineref09_reader_text.f 51 l bad = some (x,r,bad || !ok):=by
 unfold big at hl
 unfold ratlineref09_reader_text.f
 rw [rtakeText_f (by omega) (by omega) hb (by omega) (by omega),h,Option.bind_some]
 cases bad <;> rfl
theorem bits_small : ∀ n : Nat,n < 16 → (bitB (n : Int) 0 = decide ((n : Int) % 2 = 1) ∧ bitB (n : Int) 1 = decide (((n : Int) / 2) % 2 = 1) ∧ bitB (n : Int) 2 = decide (((n : Int) / 4) % 2 = 1) ∧ bitB (n : Int) 3 = decide ((n : Int) / 8 = 1)):=by decide +kernel
theorem bits_of {h : Int} (h0 : 0 ≤ h) (h1 : h ≤ 15) : bitB h 0 = decide (h % 2 = 1) ∧ bitB h 1 = decide ((h / 2) % 2 = 1) ∧ bitB h 2 = decide ((h / 4) % 2 = 1) ∧ bitB h 3 = decide (h / 8 = 1):=by
 obtain ⟨n,rfl⟩:=Int.eq_ofNat_of_zero_le h0
 exact bits_small n (by omega)
/-- The worlds that the walk of Parse goes through: the result's box stands, nothing else is written but the reader's box and the edit's. -/
structure PW (w : World) (W : World) : Prop where
 bel : Below w.heap.size w W
 res : W.heap[w.heap.size]? = some (eBx (.slice none 0 0) 0 0 0)
theorem PW.below {w W W' : World} (h : PW w W) (hb : Below W.heap.size W W') : PW w W':=⟨below_then h.bel h.bel.size hb,(hb.block _ (blk_lt h.res)).trans h.res⟩
theorem PW.set {w W : World} (h : PW w W) {p : Addr} (hp : w.heap.size < p.block) (u : Value) : PW w (W.setCell p u):=⟨h.bel.setCell (Nat.le_of_lt hp) u,(Below.heap_setCell W p u _ (by omega)).trans h.res⟩
set_option maxRecDepth 100000 in
set_option maxHeartbeats 4000000 in
theorem rparse_cons (A0 : Option Addr) (c0 : Nat) (h : Int) (t : List Int) (s1 s2 s3 s4 : PS) (r1 : List MetaS) (r2 r3 r4 r5 : Int) (w : World) (hr0 : Kd.C (Kd.int .u8) w A0 (h :: t).length (h :: t)) (hc0 : (h :: t).length ≤ c0) (hby : By (h :: t)) (hlen : (h :: t).length ≤ 1000000) (hh : h ≤ 15)
  (e1 : stepP h 0 ([],0,0,0,t,false) = some s1) (e2 : stepP h 1 s1 = some s2) (e3 : stepP h 2 s2 = some s3) (e4 : stepP h 3 s3 = some s4) (k1 : PSok s1) (k2 : PSok s2) (k3 : PSok s3) (k4 : PSok s4) (hf : edit_Parse.f (h :: t) = some (r1,r2,r3,r4,r5)) :
  Calls Try.prog 14 #[.slice A0 (h :: t).length c0] w fun e w'=>∃ v0_ : Value,e = .returned (.tuple #[.agg #[v0_,.int .u64 r2,.int .u64 r3,.int .u64 r4],.int .i64 r5]) ∧ Kd.R k58 58 w' w.heap.size (fun _=>True) v0_ r1 ∧ Below w.heap.size w w':=by
 have HF:=Aside0.mk hf
 have HRUN : Aside0 (runP h 4 0 ([],0,0,0,t,false) = some s4):=⟨by rw [runP,e1];show runP h 3 1 s1 = _;rw [runP,e2];show runP h 2 2 s2 = _;rw [runP,e3];show runP h 1 3 s3 = _;rw [runP,e4];rfl⟩
 obtain ⟨ad,e,hcc⟩:=(Kd.reads_of_C (d:=(0 : Int)) hr0).2.2 (by simp)
 subst e
 have hF0:=F_int hr0
 obtain ⟨A2,hA2⟩ : ∃ A1,A1 = (if c0 = (1 : Int).toNat then some ad else (some ad : Option Addr).map (·.add ((1 : Int).toNat * 1))):=⟨_,rfl⟩
 have hfr : Fb w (fun k=>k < w.heap.size) A2 t:=by
  refine Kd.F_imp hF0 (fun W' hC'=>?_)
  have:=Kd.C_drop (m:=(1 : Int).toNat) (c:=c0) hC' (by simp) hc0
  rw [hA2]
  exact this
 obtain ⟨i02,hi02,_,hsz02,_⟩:=info_parts Go.Proofs.YtcagajobpnpicaaG.info5
 have hcut:=cut_from (P:=Try.prog) 26 5 .i64 Try.underlying26 hi02 1 hsz02 (some ad) (h :: t).length c0 1 (by omega) (by simp;omega)
 rw [← hA2] at hcut
 obtain ⟨c2,hc2⟩ : ∃ c1,c1 = c0 - (1 : Int).toNat:=⟨_,rfl⟩
 rw [← hc2] at hcut
 rw [show (h :: t).length - (1 : Int).toNat = t.length by simp] at hcut
 have HFR:=Aside0.mk hfr
 have HC2 : Aside0 (t.length ≤ c2):=⟨by rw [hc2];simp at hc0 ⊢;omega⟩
 have HC0:=Aside0.mk hc0
 have hu:=Try.underlying25
 have hur:=Try.underlying72
 have hn0 : ((t.length + 1 : Nat) : Int) ≠ 0:=by omega
 have hn1 : decide ((t.length : Int) + 1 = 0) = false:=decide_eq_false (by omega)
 have hn2 : (((t.length : Int) + 1) == 0) = false:=by rw [beq_eq_false_iff_ne];omega
 have hh1 : decide (15 < h) = false:=decide_eq_false (by omega)
 have hh2 : decide (h > 15) = false:=hh1
 simp only [List.length_cons] at hcut
 have h00 : w.cell? ad = some (.int .u8 h):=by
  have h0:=hcc 0 (by simp)
  simp only [List.getD_cons_zero] at h0
  simpa [Addr.add] using h0
 have HAT : Aside0 (∀ W,Below w.heap.size w W → W.cell? ad = some (.int .u8 h)):=⟨fun W hb=>(hb.cell (World.block_lt_of_cell? _ _ h00)).trans h00⟩
 have HR0:=Aside0.mk hr0
 have HBY:=Aside0.mk hby
 have HLEN:=Aside0.mk hlen
 have HH:=Aside0.mk (And.intro hby.head.1 hh)
 have E1:=Aside0.mk e1
 have E2:=Aside0.mk e2
 have E3:=Aside0.mk e3
 have E4:=Aside0.mk e4
 have K1:=Aside0.mk k1
 have K2:=Aside0.mk k2
 have K3:=Aside0.mk k3
 have K4:=Aside0.mk k4
 clear hr0 hc0 hf hcc hF0 hA2 hfr hi02 hsz02 hc2 hby hlen hh e1 e2 e3 e4 k1 k2 k3 k4
 go_enter Try.func14,Try.ntmps14
 have h01:=pw_cell_below (below_alloc (Below.refl _ _) (eBx (.slice none 0 0) 0 0 0)) h00
 go_upto_region 5 with (fail)
 obtain ⟨W3,hW3⟩ : ∃ W,W = ((w.alloc (eBx (.slice none 0 0) 0 0 0)).alloc (.cells #[.slice A2 t.length c2,.bool false] 72)).alloc (eBx (.slice none 0 0) 0 0 0):=⟨_,rfl⟩
 rw [show ((w.alloc (.cells #[.slice none 0 0,.int .u64 0,.int .u64 0,.int .u64 0] 25)).alloc (.cells #[.slice A2 t.length c2,.bool false] 72)).alloc (.cells #[.slice none 0 0,.int .u64 0,.int .u64 0,.int .u64 0] 25) = W3 from hW3.symm]
 obtain ⟨r,hr⟩ : ∃ x,x = w.heap.size + 1:=⟨_,rfl⟩
 obtain ⟨g,hg⟩ : ∃ x,x = w.heap.size + 1 + 1:=⟨_,rfl⟩
 have hB3 : Below w.heap.size w W3:=by rw [hW3];exact below_alloc (below_alloc (below_alloc (Below.refl _ _) _) _) _
 have hs3 : W3.heap.size = w.heap.size + 3:=by rw [hW3];simp
 have hbs : W3.heap[w.heap.size]? = some (eBx (.slice none 0 0) 0 0 0):=by
  rw [hW3]
  exact (Below.heap_alloc _ _ _ (by simp;omega)).trans ((Below.heap_alloc _ _ _ (by simp)).trans (World.alloc_heap_new w _))
 have hbr : W3.heap[r]? = some (.cells #[.slice A2 t.length c2,.bool false] 72):=by
  have h7:=World.alloc_heap_new (w.alloc (eBx (.slice none 0 0) 0 0 0)) (.cells #[.slice A2 t.length c2,.bool false] 72)
  rw [World.size_alloc] at h7
  rw [hW3,hr]
  exact (Below.heap_alloc _ _ _ (by simp)).trans h7
 have hbe : W3.heap[g]? = some (eBx (.slice none 0 0) 0 0 0):=by
  have h7:=World.alloc_heap_new ((w.alloc (eBx (.slice none 0 0) 0 0 0)).alloc (.cells #[.slice A2 t.length c2,.bool false] 72)) (eBx (.slice none 0 0) 0 0 0)
  rw [World.size_alloc,World.size_alloc] at h7
  rw [hW3,hg]
  exact h7
 rw [← hg,← hr]
 have hbeg : Beg W3.heap.size r g (fun k=>k < w.heap.size) (.slice none 0 0) [] 0 0 0 t false W3:=⟨⟨A2,c2,hbr,HC2.out,Kd.F_mono (Kd.F_below HFR.out hB3) (fun k hk=>⟨.inl hk,by simp [Value.ownBlock]⟩)⟩,Kd.R_nil _ _ _ _ _,hbe,fun k hk=>by omega,by omega⟩
 have HG : Aside0 (w.heap.size < r ∧ w.heap.size < g ∧ r < W3.heap.size ∧ g < W3.heap.size ∧ g ≠ r ∧ w.heap.size ≤ W3.heap.size):=⟨by omega⟩
 have hat:=HAT.out W3 hB3
 have HBEG:=Aside0.mk hbeg
 have HPW : Aside0 (PW w W3):=⟨⟨hB3,hbs⟩⟩
 obtain ⟨base,hbase⟩ : ∃ b,b = W3.heap.size:=⟨_,rfl⟩
 rw [← hbase] at HG HBEG
 clear hB3 hs3 hbs hbr hbe hbeg hr hg hW3 HC2 HFR h01 h00 hcut hbase
 have hbits:=bits_of HH.out.1 HH.out.2
 obtain ⟨l1,a1,b1,d1,q1,bad1⟩:=s1
 go_upto_if 29 with (fail)
 go_cut [] (fun wc=>∃ (A : Option Addr) (c : Nat),a1 = 0 ∧ b1 = 0 ∧ d1 = 0 ∧ Aside0 (Beg base r g (fun k=>k < w.heap.size) (.slice A l1.length c) l1 0 0 0 q1 bad1 wc) ∧ Aside0 (PW w wc))
 case first =>
  cases hb0 : bitB h 0 with
  | false =>
   have hc : ¬ h % 2 = 1:=of_decide_eq_false (by rw [← hbits.1];exact hb0)
   have ht : h.tmod 2 = 0:=by have:=HH.out;rw [Int.tmod_eq_emod_of_nonneg this.1];omega
   clear hc
   have e1:=E1.out
   rw [stepP,hb0,if_neg (by decide)] at e1
   simp only [Option.some.injEq,Prod.mk.injEq] at e1
   obtain ⟨rfl,rfl,rfl,rfl,rfl,rfl⟩:=e1
   clear hbits
   go_wp2
   go_meet
   case rel=>exact ⟨none,0,trivial,trivial,trivial,HBEG,HPW⟩
  | true =>
   have hc : h % 2 = 1:=of_decide_eq_true (by rw [← hbits.1];exact hb0)
   have ht : h.tmod 2 = 1:=by have:=HH.out;rw [Int.tmod_eq_emod_of_nonneg this.1];exact hc
   clear hc
   have e1:=E1.out
   rw [stepP,hb0,if_pos rfl] at e1
   obtain ⟨⟨z1,z2,z3⟩,hadd,e1⟩:=Option.bind_eq_some_iff.1 e1
   simp only [Option.some.injEq,Prod.mk.injEq] at e1
   obtain ⟨rfl,rfl,rfl,rfl,rfl,rfl⟩:=e1
   unfold addT at hadd
   obtain ⟨⟨n,p,ok⟩,htake,hadd⟩:=Option.bind_eq_some_iff.1 hadd
   have HADD:=Aside0.mk hadd
   obtain ⟨hun,hbp,hlp⟩:=take_by HBY.out.tail (by have:=HLEN.out;rw [List.length_cons] at this;unfold big;omega) htake
   obtain ⟨A5,c5,hb5,hl5,hF5⟩:=HBEG.out.rd
   have hcl:=ratlineref09_reader_num.calls 51 A5 c5 t false n p (!ok) W3 (Kd.F_now hF5) hl5 (by rw [rnum_f HBY.out.tail (by have:=HLEN.out;rw [List.length_cons] at this;unfold big;omega) htake];rfl)
   have hrb:=(blk_cell hb5 0).trans rfl
   have hrb1:=(blk_cell hb5 1).trans rfl
   have HB5:=Aside0.mk hb5
   have HCL:=Aside0.mk hcl
   have HUN:=Aside0.mk hun
   have HBP : Aside0 (By p ∧ p.length ≤ 1000000):=⟨hbp,by have:=HLEN.out;rw [List.length_cons] at this;omega⟩
   clear hbits hcl hadd htake hun hbp hlp hb5 hl5 hF5
   go_wp2_with (go_at_call 36;refine HCL.out.mono ?_;rintro e w4 ⟨v4,rfl,hv4,hd4⟩;obtain ⟨A4,c4,hvv4,hl4,hF4⟩:=Fb.fresh hv4;subst hvv4;have HV4:=Aside0.mk hF4;have HL4:=Aside0.mk hl4;have HD4:=Aside0.mk hd4;have hb6:=blk_alloc ((hd4.block _ (blk_lt HB5.out)).trans HB5.out) (.cells #[.slice A4 p.length c4,.bool (!ok)] 72);have hx0:=(blk_cell hb6 0).trans rfl;have hx1:=(blk_cell hb6 1).trans rfl;have hf0:=blk_frozen hb6 0;have hf1:=blk_frozen hb6 1;clear hv4 hd4 hl4 hF4 hrb hrb1 hb6)
   obtain ⟨W5,hW5⟩ : ∃ W,W = ((w4.alloc (.cells #[.slice A4 p.length c4,.bool (!ok)] 72)).setCell ⟨r,0,none⟩ (.slice A4 p.length c4)).setCell ⟨r,1,none⟩ (.bool (!ok)):=⟨_,rfl⟩
   have hb5 : Beg base r g (fun k=>k < w.heap.size) (.slice none 0 0) [] 0 0 0 p (!ok) W5:=by
    rw [hW5]
    exact HBEG.out.put (W2:=w4.alloc (.cells #[.slice A4 p.length c4,.bool (!ok)] 72)) (HD4.out.alloc HD4.out.size _) HL4.out (Kd.F_alloc HV4.out _)
   have hp5 : PW w W5:=by
    rw [hW5]
    exact ((HPW.out.below (HD4.out.alloc HD4.out.size _)).set (p:=⟨r,0,none⟩) HG.out.1 _).set (p:=⟨r,1,none⟩) HG.out.1 _
   rw [show ((w4.alloc (.cells #[.slice A4 p.length c4,.bool (!ok)] 72)).setCell ⟨r,0,none⟩ (.slice A4 p.length c4)).setCell ⟨r,1,none⟩ (.bool (!ok)) = W5 from hW5.symm]
   have HBEG5:=Aside0.mk hb5
   have HPW5:=Aside0.mk hp5
   clear hW5 hb5 hp5 hx0 hx1 hf0 hf1 HV4 HL4 HD4 HB5 HCL HBEG HPW E1
   go_loopg [8] 66 (fun kq v8 wr=>∃ (i : Nat) (out : List MetaS) (b : List Int) (bd : Bool) (A : Option Addr) (c : Nat),v8 = .int .u64 (i : Int) ∧ Aside0 (i + kq = 66 ∧ i ≤ 65 ∧ (i : Int) ≤ n ∧ out.length = i) ∧ Aside0 (addL (65 - i) (n - (i : Int)) out b bd = some (z1,z2,z3)) ∧ Aside0 (By b ∧ b.length ≤ 1000000) ∧ Aside0 (Beg base r g (fun k=>k < w.heap.size) (.slice A out.length c) out 0 0 0 b bd wr) ∧ Aside0 (PW w wr))
   case atStart=>exact ⟨0,[],p,!ok,none,0,rfl,⟨by have:=HUN.out.1;simp;omega⟩,⟨by have:=HADD.out;simpa using this⟩,HBP,HBEG5,HPW5⟩
   case round =>
    clear HBEG5 HPW5 HBP HADD
    obtain ⟨i,out,b,bd,A,c,rfl,HI,HAD,HBB,HBG,HPW⟩:=hrel
    obtain ⟨A5,c5,hb5,hl5,hF5⟩:=HBG.out.rd
    have hr0 : wr.cell? ⟨r,0,none⟩ = some (.slice A5 b.length c5):=(blk_cell hb5 0).trans rfl
    have hr1 : wr.cell? ⟨r,1,none⟩ = some (.bool bd):=(blk_cell hb5 1).trans rfl
    have out_ : ∀ (hs : ¬ 0 < n - (i : Int) ∨ bd = true ∨ 65 - i = 0),out = z1 ∧ b = z2 ∧ bd = z3:=fun hs=>by
     have h1:=HAD.out
     rw [addL_stop hs] at h1
     simpa using h1
    have HOUT:=Aside0.mk out_
    have HB5:=Aside0.mk hb5
    have HL5:=Aside0.mk hl5
    have HF5:=Aside0.mk (Kd.F_now hF5)
    clear out_ hb5 hl5 hF5
    by_cases hin : (i : Int) < n
    ·have hd1 : decide ((i : Int) < n) = true:=decide_eq_true hin
     by_cases h64 : i ≤ 64
     ·have hd2 : decide ((i : Int) ≤ 64) = true:=decide_eq_true (by omega)
      have hd3 : decide (i ≤ 64) = true:=decide_eq_true h64
      cases bd with
      | true =>
       obtain ⟨e1,e2,e3⟩:=HOUT.out (.inr (.inl rfl))
       subst e1 e2 e3
       clear hin h64
       go_wp2
       go_meet
       case rel=>exact ⟨A,c,trivial,trivial,trivial,HBG,HPW⟩
      | false =>
       cases gk with
       | zero=>exact absurd HI.out.1 (by omega)
       | succ k1 =>
        clear HOUT
        have h1:=HAD.out
        rw [show 65 - i = (64 - i) + 1 from by omega,addL,if_pos (by omega),if_neg (by decide)] at h1
        obtain ⟨⟨o,b1,bd1⟩,ho,h1⟩:=Option.bind_eq_some_iff.1 h1
        unfold metaF at ho
        obtain ⟨⟨s1,s2_,s3_⟩,hs,ho⟩:=Option.bind_eq_some_iff.1 ho
        obtain ⟨⟨p1,p2,p3⟩,hp,ho⟩:=Option.bind_eq_some_iff.1 ho
        obtain ⟨⟨q1,q2,q3⟩,hq,ho⟩:=Option.bind_eq_some_iff.1 ho
        obtain ⟨⟨x1,x2,x3⟩,hx,ho⟩:=Option.bind_eq_some_iff.1 ho
        simp only [Option.some.injEq,Prod.mk.injEq] at ho
        obtain ⟨rfl,rfl,rfl⟩:=ho
        obtain ⟨hu1,hB1,hn1⟩:=take_by HBB.out.1 (by have:=HBB.out.2;unfold big;omega) hs
        obtain ⟨hu2,hB2,hn2⟩:=take_by hB1 (by have:=HBB.out.2;unfold big;omega) hp
        obtain ⟨hB3,hn3⟩:=text_by hB2 (by have:=HBB.out.2;unfold big;omega) hq
        obtain ⟨hB4,hn4⟩:=text_by hB3 (by have:=HBB.out.2;unfold big;omega) hx
        have HX4 : Aside0 (By x2 ∧ x2.length ≤ 1000000):=⟨hB4,by have:=HBB.out.2;omega⟩
        obtain ⟨d1,hd1_⟩ : ∃ d,d = (false || !s3_):=⟨_,rfl⟩
        obtain ⟨d2,hd2_⟩ : ∃ d,d = (d1 || !p3):=⟨_,rfl⟩
        obtain ⟨d3,hd3_⟩ : ∃ d,d = (d2 || !q3):=⟨_,rfl⟩
        obtain ⟨d4,hd4_⟩ : ∃ d,d = (d3 || !x3):=⟨_,rfl⟩
        have HT1F : Aside0 (ratlineref09_reader_num.f 51 b false = some (s1,s2_,d1)):=⟨by rw [rnum_f HBB.out.1 (by have:=HBB.out.2;unfold big;omega) hs,hd1_]⟩
        have HT2F : Aside0 (ratlineref09_reader_num.f 51 s2_ d1 = some (p1,p2,d2)):=⟨by rw [rnum_f hB1 (by have:=HBB.out.2;unfold big;omega) hp,hd2_]⟩
        have HT3F : Aside0 (ratlineref09_reader_text.f 51 p2 d2 = some (q1,q2,d3)):=⟨by rw [rtext_f hB2 (by have:=HBB.out.2;unfold big;omega) hq,hd3_]⟩
        have HT4F : Aside0 (ratlineref09_reader_text.f 51 q2 d3 = some (x1,x2,d4)):=⟨by rw [rtext_f hB3 (by have:=HBB.out.2;unfold big;omega) hx,hd4_]⟩
        have H1 : Aside0 (addL (64 - i) (IntKind.u64.wrap (n - (i : Int) - 1)) (out ++ [⟨s1,p1,q1,x1⟩]) x2 d4 = some (z1,z2,z3)):=⟨by rw [hd4_,hd3_,hd2_,hd1_];exact h1⟩
        have HIN:=Aside0.mk hin
        have HI64:=Aside0.mk h64
        clear hd1_ hd2_ hd3_ hd4_ hs hp hq hx h1 hu1 hu2 hB1 hB2 hB3 hB4 hn1 hn2 hn3 hn4 hin h64
        go_upto_region 12 with (fail)
        obtain ⟨gm,hgm⟩ : ∃ x,x = wr.heap.size:=⟨_,rfl⟩
        have hacc : Acc base r g gm (fun k=>k < w.heap.size) (.slice A out.length c) out #[.int .u64 0,.int .u64 0,.string ⟨#[]⟩,.string ⟨#[]⟩] 0 0 0 b false (wr.alloc (.cells #[.int .u64 0,.int .u64 0,.string ⟨#[]⟩,.string ⟨#[]⟩] 58)):=by
         rw [hgm]
         exact Beg.start HBG.out (Stays.refl _ _) (HBG.out.rd.mono (fun k hk=>.inl hk)) _
        have HW1 : Aside0 (PW w (wr.alloc (.cells #[.int .u64 0,.int .u64 0,.string ⟨#[]⟩,.string ⟨#[]⟩] 58))):=⟨HPW.out.below (below_alloc (Below.refl _ _) _)⟩
        have HT1C : Aside0 (Kd.C (Kd.int .u8) (wr.alloc (.cells #[.int .u64 0,.int .u64 0,.string ⟨#[]⟩,.string ⟨#[]⟩] 58)) A5 b.length b):=⟨Kd.C_alloc HF5.out _⟩
        have HT1L:=HL5
        have HGM : Aside0 (w.heap.size < gm):=⟨by rw [hgm];have:=HG.out;have:=HBG.out.lt.2.2.1;omega⟩
        have hr2:=pw_cell_below (below_alloc (Below.refl _ _) (.cells #[.int .u64 0,.int .u64 0,.string ⟨#[]⟩,.string ⟨#[]⟩] 58)) hr0
        have hr3:=pw_cell_below (below_alloc (Below.refl _ _) (.cells #[.int .u64 0,.int .u64 0,.string ⟨#[]⟩,.string ⟨#[]⟩] 58)) hr1
        have HA1:=Aside0.mk hacc
        clear hacc hr0 hr1
        rw [← hgm]
        have HNE : Aside0 (r ≠ gm):=⟨by rw [hgm];have:=HBG.out.rd.lt;omega⟩
        have HGMW:=Aside0.mk hgm
        clear hgm
        have hr0:=hr2
        have hr1:=hr3
        clear hr2 hr3
        go_upto_region 13 with (go_at_call 36;(with_reducible refine (ratlineref09_reader_num.calls 51 A5 c5 b false s1 s2_ d1 _ HT1C.out HT1L.out HT1F.out).mono ?_);rintro e wk2 ⟨vk2,rfl,hv,hd⟩;obtain ⟨AK2,ck2,hvv,hll,hF⟩:=Fb.fresh hv;subst hvv;obtain ⟨hA,hC,hR⟩:=Acc.num (bad':=d1) HA1.out hd hll hF 0 (.int .u64 s1) (mc':=#[.int .u64 s1,.int .u64 0,.string ⟨#[]⟩,.string ⟨#[]⟩]) rfl;obtain ⟨Aq,cq,hbq,_,_⟩:=HA1.out.rd;have hm7:=(hd.block _ (blk_lt HA1.out.mb)).trans HA1.out.mb;have hb7:=blk_far (p:=⟨gm,0,none⟩) ((hd.block _ (blk_lt hbq)).trans hbq) HNE.out (.int .u64 s1);clear hr0 hr1;have hx0:=(blk_cell hb7 0).trans rfl;have hx1:=(blk_cell hb7 1).trans rfl;have hf0:=blk_frozen hb7 0;have hf1:=blk_frozen hb7 1;have hm0:=(blk_cell hm7 0).trans rfl;have hg0:=blk_frozen hm7 0;have HKA2:=Aside0.mk hA;have HKC2:=Aside0.mk hC;have HKR2:=Aside0.mk hR;have HKL2:=Aside0.mk hll;have HKW2:=Aside0.mk ((((HW1.out.below hd).set (p:=⟨gm,0,none⟩) HGM.out (.int .u64 s1)).set (p:=⟨r,0,none⟩) HG.out.1 (.slice AK2 s2_.length ck2)).set (p:=⟨r,1,none⟩) HG.out.1 (.bool d1));clear hv hd hll hF hA hC hR hbq hb7 hm7)
        obtain ⟨Y2,hY2⟩ : ∃ W,W = ((wk2.setCell ⟨gm,0,none⟩ (.int .u64 s1)).setCell ⟨r,0,none⟩ (.slice AK2 s2_.length ck2)).setCell ⟨r,1,none⟩ (.bool d1):=⟨_,rfl⟩
        rw [show ((wk2.setCell ⟨gm,0,none⟩ (.int .u64 s1)).setCell ⟨r,0,none⟩ (.slice AK2 s2_.length ck2)).setCell ⟨r,1,none⟩ (.bool d1) = Y2 from hY2.symm]
        rw [← hY2] at HKA2 HKC2 HKR2 HKW2
        clear hY2 hx0 hx1 hf0 hf1 hm0 hg0
        have hr0:=(blk_cell HKR2.out 0).trans rfl
        have hr1:=(blk_cell HKR2.out 1).trans rfl
        go_upto_region 14 with (go_at_call 36;(with_reducible refine (ratlineref09_reader_num.calls 51 AK2 ck2 s2_ d1 p1 p2 d2 _ HKC2.out HKL2.out HT2F.out).mono ?_);rintro e wk3 ⟨vk3,rfl,hv,hd⟩;obtain ⟨AK3,ck3,hvv,hll,hF⟩:=Fb.fresh hv;subst hvv;obtain ⟨hA,hC,hR⟩:=Acc.num (bad':=d2) HKA2.out hd hll hF 1 (.int .u64 p1) (mc':=#[.int .u64 s1,.int .u64 p1,.string ⟨#[]⟩,.string ⟨#[]⟩]) rfl;obtain ⟨Aq,cq,hbq,_,_⟩:=HKA2.out.rd;have hm7:=(hd.block _ (blk_lt HKA2.out.mb)).trans HKA2.out.mb;have hb7:=blk_far (p:=⟨gm,1,none⟩) ((hd.block _ (blk_lt hbq)).trans hbq) HNE.out (.int .u64 p1);clear hr0 hr1;have hx0:=(blk_cell hb7 0).trans rfl;have hx1:=(blk_cell hb7 1).trans rfl;have hf0:=blk_frozen hb7 0;have hf1:=blk_frozen hb7 1;have hm0:=(blk_cell hm7 1).trans rfl;have hg0:=blk_frozen hm7 1;have HKA3:=Aside0.mk hA;have HKC3:=Aside0.mk hC;have HKR3:=Aside0.mk hR;have HKL3:=Aside0.mk hll;have HKW3:=Aside0.mk ((((HKW2.out.below hd).set (p:=⟨gm,1,none⟩) HGM.out (.int .u64 p1)).set (p:=⟨r,0,none⟩) HG.out.1 (.slice AK3 p2.length ck3)).set (p:=⟨r,1,none⟩) HG.out.1 (.bool d2));clear hv hd hll hF hA hC hR hbq hb7 hm7)
        obtain ⟨Y3,hY3⟩ : ∃ W,W = ((wk3.setCell ⟨gm,1,none⟩ (.int .u64 p1)).setCell ⟨r,0,none⟩ (.slice AK3 p2.length ck3)).setCell ⟨r,1,none⟩ (.bool d2):=⟨_,rfl⟩
        rw [show ((wk3.setCell ⟨gm,1,none⟩ (.int .u64 p1)).setCell ⟨r,0,none⟩ (.slice AK3 p2.length ck3)).setCell ⟨r,1,none⟩ (.bool d2) = Y3 from hY3.symm]
        rw [← hY3] at HKA3 HKC3 HKR3 HKW3
        clear hY3 hx0 hx1 hf0 hf1 hm0 hg0
        have hr0:=(blk_cell HKR3.out 0).trans rfl
        have hr1:=(blk_cell HKR3.out 1).trans rfl
        go_upto_region 15 with (go_at_call 37;(with_reducible refine (ratlineref09_reader_text.calls 51 AK3 ck3 p2 d2 q1 q2 d3 _ HKC3.out HKL3.out HT3F.out).mono ?_);rintro e wk4 ⟨vk4,rfl,hv,hd⟩;obtain ⟨AK4,ck4,hvv,hll,hF⟩:=Fb.fresh hv;subst hvv;obtain ⟨hA,hC,hR⟩:=Acc.num (bad':=d3) HKA3.out hd hll hF 2 (.string q1) (mc':=#[.int .u64 s1,.int .u64 p1,.string q1,.string ⟨#[]⟩]) rfl;obtain ⟨Aq,cq,hbq,_,_⟩:=HKA3.out.rd;have hm7:=(hd.block _ (blk_lt HKA3.out.mb)).trans HKA3.out.mb;have hb7:=blk_far (p:=⟨gm,2,none⟩) ((hd.block _ (blk_lt hbq)).trans hbq) HNE.out (.string q1);clear hr0 hr1;have hx0:=(blk_cell hb7 0).trans rfl;have hx1:=(blk_cell hb7 1).trans rfl;have hf0:=blk_frozen hb7 0;have hf1:=blk_frozen hb7 1;have hm0:=(blk_cell hm7 2).trans rfl;have hg0:=blk_frozen hm7 2;have HKA4:=Aside0.mk hA;have HKC4:=Aside0.mk hC;have HKR4:=Aside0.mk hR;have HKL4:=Aside0.mk hll;have HKW4:=Aside0.mk ((((HKW3.out.below hd).set (p:=⟨gm,2,none⟩) HGM.out (.string q1)).set (p:=⟨r,0,none⟩) HG.out.1 (.slice AK4 q2.length ck4)).set (p:=⟨r,1,none⟩) HG.out.1 (.bool d3));clear hv hd hll hF hA hC hR hbq hb7 hm7)
        obtain ⟨Y4,hY4⟩ : ∃ W,W = ((wk4.setCell ⟨gm,2,none⟩ (.string q1)).setCell ⟨r,0,none⟩ (.slice AK4 q2.length ck4)).setCell ⟨r,1,none⟩ (.bool d3):=⟨_,rfl⟩
        rw [show ((wk4.setCell ⟨gm,2,none⟩ (.string q1)).setCell ⟨r,0,none⟩ (.slice AK4 q2.length ck4)).setCell ⟨r,1,none⟩ (.bool d3) = Y4 from hY4.symm]
        rw [← hY4] at HKA4 HKC4 HKR4 HKW4
        clear hY4 hx0 hx1 hf0 hf1 hm0 hg0
        have hr0:=(blk_cell HKR4.out 0).trans rfl
        have hr1:=(blk_cell HKR4.out 1).trans rfl
        go_upto_region 16 with (go_at_call 37;(with_reducible refine (ratlineref09_reader_text.calls 51 AK4 ck4 q2 d3 x1 x2 d4 _ HKC4.out HKL4.out HT4F.out).mono ?_);rintro e wk5 ⟨vk5,rfl,hv,hd⟩;obtain ⟨AK5,ck5,hvv,hll,hF⟩:=Fb.fresh hv;subst hvv;obtain ⟨hA,hC,hR⟩:=Acc.num (bad':=d4) HKA4.out hd hll hF 3 (.string x1) (mc':=#[.int .u64 s1,.int .u64 p1,.string q1,.string x1]) rfl;obtain ⟨Aq,cq,hbq,_,_⟩:=HKA4.out.rd;have hm7:=(hd.block _ (blk_lt HKA4.out.mb)).trans HKA4.out.mb;have hb7:=blk_far (p:=⟨gm,3,none⟩) ((hd.block _ (blk_lt hbq)).trans hbq) HNE.out (.string x1);clear hr0 hr1;have hx0:=(blk_cell hb7 0).trans rfl;have hx1:=(blk_cell hb7 1).trans rfl;have hf0:=blk_frozen hb7 0;have hf1:=blk_frozen hb7 1;have hm0:=(blk_cell hm7 3).trans rfl;have hg0:=blk_frozen hm7 3;have HKA5:=Aside0.mk hA;have HKC5:=Aside0.mk hC;have HKR5:=Aside0.mk hR;have HKL5:=Aside0.mk hll;have HKW5:=Aside0.mk ((((HKW4.out.below hd).set (p:=⟨gm,3,none⟩) HGM.out (.string x1)).set (p:=⟨r,0,none⟩) HG.out.1 (.slice AK5 x2.length ck5)).set (p:=⟨r,1,none⟩) HG.out.1 (.bool d4));clear hv hd hll hF hA hC hR hbq hb7 hm7)
        obtain ⟨Y5,hY5⟩ : ∃ W,W = ((wk5.setCell ⟨gm,3,none⟩ (.string x1)).setCell ⟨r,0,none⟩ (.slice AK5 x2.length ck5)).setCell ⟨r,1,none⟩ (.bool d4):=⟨_,rfl⟩
        rw [show ((wk5.setCell ⟨gm,3,none⟩ (.string x1)).setCell ⟨r,0,none⟩ (.slice AK5 x2.length ck5)).setCell ⟨r,1,none⟩ (.bool d4) = Y5 from hY5.symm]
        rw [← hY5] at HKA5 HKC5 HKR5 HKW5
        clear hY5 hx0 hx1 hf0 hf1 hm0 hg0
        have hr0:=(blk_cell HKR5.out 0).trans rfl
        have hr1:=(blk_cell HKR5.out 1).trans rfl
        have hm0 : Y5.cell? ⟨gm,0,none⟩ = some (.int .u64 s1):=(blk_cell HKA5.out.mb 0).trans rfl
        have hm1 : Y5.cell? ⟨gm,1,none⟩ = some (.int .u64 p1):=(blk_cell HKA5.out.mb 1).trans rfl
        have hm2 : Y5.cell? ⟨gm,2,none⟩ = some (.string q1):=(blk_cell HKA5.out.mb 2).trans rfl
        have hm3 : Y5.cell? ⟨gm,3,none⟩ = some (.string x1):=(blk_cell HKA5.out.mb 3).trans rfl
        have hb6 : Y5.cell? ⟨g,0,none⟩ = some (.slice A out.length c):=(blk_cell HKA5.out.bx 0).trans rfl
        have HROW : Aside0 (Kd.R k58 58 Y5 base (fun k=>k ≠ r ∧ k ≠ g) (.slice A out.length c) out):=⟨Kd.R_mono (Kd.R_lower HKA5.out.row (Nat.le_refl _)) (fun k hk=>⟨hk.1,hk.2.1⟩)⟩
        have HRD : Aside0 (Rd r (fun k=>(k < w.heap.size ∨ base ≤ k) ∧ some k ≠ (Value.slice A out.length c).ownBlock) Y5 x2 d4):=⟨HKA5.out.rd.mono (fun k hk=>⟨hk.1,hk.2.2⟩)⟩
        have HBS : Aside0 (base ≤ Y5.heap.size):=⟨by have h1:=blk_lt HKA5.out.mb;have h2:=HGMW.out;have h3:=HBG.out.lt.2.2.1;omega⟩
        have HLO : Aside0 (out.length ≤ 64):=⟨by have:=HI.out.2.2.2;have:=HI64.out;omega⟩
        clear hr0 hr1
        go_wp2_with ((with_reducible refine gate_builtin (b:=.append) (xs:=#[.tmp 75,.tmp 77]) rfl ?_);at_builtin;refine Kd.R_append k58 (w0:=Y5) base rfl (.tmp 75) (.tmp 77) 22 58 (.agg #[.int .u64 0,.int .u64 0,.string ⟨#[]⟩,.string ⟨#[]⟩]) 48 rfl Try.underlying22 info58 rfl (by decide) (by decide) (.slice A out.length c) out (⟨s1,p1,q1,x1⟩ : MetaS) [.int .u64 s1,.int .u64 p1,.string q1,.string x1] (fun k=>k ≠ r ∧ k ≠ g) (fun _=>False) rfl rfl (k58_mkM _ _ _ (⟨s1,p1,q1,x1⟩ : MetaS)) (fun _ hk=>hk.elim) (fun k hk=>⟨by have:=HG.out;have:=HBS.out;omega,by have:=HG.out;have:=HBS.out;omega⟩) HROW.out (Below.refl _ _) HBS.out (by have:=HLO.out;omega) ?_;intro v7 w7 ho7 hb7 hg7 hat7;obtain ⟨A7,c7,e7⟩:=Kd.R_slice ho7;generalize hN : (out ++ [(⟨s1,p1,q1,x1⟩ : MetaS)]).length = n7 at e7;subst e7;have HO7:=Aside0.mk ho7;have HN:=Aside0.mk hN;have HRD7:=Aside0.mk (Rd.after HRD.out hg7 (fun e=>(HROW.out.1 _ e.symm).1 rfl) hat7);have hbx7:=blk_grown HKA5.out.bx hg7 (fun e=>(HROW.out.1 _ e.symm).2 rfl);have HBX7:=Aside0.mk hbx7;have hb77 : w7.cell? ⟨g,0,none⟩ = some (.slice A out.length c):=(blk_cell hbx7 0).trans rfl;have hfb7:=blk_frozen hbx7 0;have HG7:=Aside0.mk hg7;clear ho7 hb7 hg7 hat7 hN hbx7)
        have hN:=HN.out
        subst hN
        have hbg : Beg base r g (fun k=>k < w.heap.size) (.slice A7 (out ++ [(⟨s1,p1,q1,x1⟩ : MetaS)]).length c7) (out ++ [(⟨s1,p1,q1,x1⟩ : MetaS)]) 0 0 0 x2 d4 (w7.setCell ⟨g,0,none⟩ (.slice A7 (out ++ [(⟨s1,p1,q1,x1⟩ : MetaS)]).length c7)) :=
         ⟨Rd.far (p:=⟨g,0,none⟩) HRD7.out (by have:=HG.out;show g ≠ r;omega) (fun k hk=>by have:=HG.out;show k ≠ g;rcases hk.1 with h|h <;> omega) _,Kd.R_mono (Kd.R_far (p:=⟨g,0,none⟩) HO7.out (fun k hk=>hk.2) _) (fun _ _=>trivial),blk_put HBX7.out 0 _ rfl,HBG.out.hok,by have:=HG.out;have h8:=HG7.out.size;have:=HBS.out;refine ⟨by omega,by omega,?_,by omega⟩;simpa [World.setCell] using Nat.le_trans HBS.out h8⟩
        have hpw : PW w (w7.setCell ⟨g,0,none⟩ (.slice A7 (out ++ [(⟨s1,p1,q1,x1⟩ : MetaS)]).length c7)):=by
         refine PW.set ⟨?_,?_⟩ (p:=⟨g,0,none⟩) HG.out.2.1 _
         ·exact HKW5.out.bel.grown HG7.out HKW5.out.bel.size (fun k hk=>by have:=Kd.R_base HROW.out k hk;have:=HG.out;omega)
         ·exact blk_grown HKW5.out.res HG7.out (fun e=>by have:=Kd.R_base HROW.out _ e.symm;have:=HG.out;omega)
        have HBG7:=Aside0.mk hbg
        have HPW7:=Aside0.mk hpw
        have HI7 : Aside0 (i + 1 + k1 = 66 ∧ i + 1 ≤ 65 ∧ ((i + 1 : Nat) : Int) ≤ n ∧ (out ++ [(⟨s1,p1,q1,x1⟩ : MetaS)]).length = i + 1):=⟨by have h1:=HI.out;have h2:=HI64.out;have h3:=HIN.out;refine ⟨by omega,by omega,by omega,by rw [List.length_append,h1.2.2.2];rfl⟩⟩
        have HAD7 : Aside0 (addL (65 - (i + 1)) (n - ((i + 1 : Nat) : Int)) (out ++ [⟨s1,p1,q1,x1⟩]) x2 d4 = some (z1,z2,z3)):=⟨by
         have h1:=H1.out
         have h2:=HIN.out
         have h3:=HUN.out
         rw [show IntKind.u64.wrap (n - (i : Int) - 1) = n - ((i + 1 : Nat) : Int) from by rw [IntKind.wrap_u64];unfold U64 at h3;omega] at h1
         rw [show 65 - (i + 1) = 64 - i from by omega]
         exact h1⟩
        have hw1 : ((i : Int) + 1) % 18446744073709551616 = ((i + 1 : Nat) : Int):=by have:=HI.out;omega
        have HW1':=Aside0.mk hw1
        clear hbg hpw hw1 hm0 hm1 hm2 hm3 hb6 hb77 hfb7 HROW HRD HO7 HRD7 HBX7 HN HKA2 HKA3 HKA4 HKA5 HKC2 HKC3 HKC4 HKC5 HKR2 HKR3 HKR4 HKR5
        go_wp2
        go_roundg k1
        case measure=>exact Nat.lt_succ_self _
        case rel=>exact ⟨i + 1,out ++ [(⟨s1,p1,q1,x1⟩ : MetaS)],x2,d4,A7,c7,by rw [IntKind.wrap_u64,HW1'.out],HI7,HAD7,HX4,HBG7,HPW7⟩
     ·have hd2 : decide ((i : Int) ≤ 64) = false:=decide_eq_false (by omega)
      have hd3 : decide (i ≤ 64) = false:=decide_eq_false h64
      obtain ⟨e1,e2,e3⟩:=HOUT.out (.inr (.inr (by omega)))
      subst e1 e2 e3
      clear hin h64
      go_wp2
      go_meet
      case rel=>exact ⟨A,c,trivial,trivial,trivial,HBG,HPW⟩
    ·have hd1 : decide ((i : Int) < n) = false:=decide_eq_false hin
     obtain ⟨e1,e2,e3⟩:=HOUT.out (.inl (by omega))
     subst e1 e2 e3
     clear hin
     go_wp2
     go_meet
     case rel=>exact ⟨A,c,trivial,trivial,trivial,HBG,HPW⟩
 case rest =>
  obtain ⟨A,c,rfl,rfl,rfl,HBG,HPW⟩:=hcut
  clear HBEG E1
  obtain ⟨wA1,hwA1⟩ : ∃ W,W = wc:=⟨_,rfl⟩
  subst hwA1
  obtain ⟨l2,x1,y1,z1,q2,bad2⟩:=s2
  have hat:=HAT.out wA1 HPW.out.bel
  go_upto_if 85 with (fail)
  go_cut [] (fun wc=>l2 = l1 ∧ Aside0 (Beg base r g (fun k=>k < w.heap.size) (.slice A l1.length c) l1 x1 y1 z1 q2 bad2 wc) ∧ Aside0 (PW w wc))
  case first =>
   have hq0 : h.tdiv 2 = h / 2:=by have:=HH.out;rw [Int.tdiv_eq_ediv_of_nonneg this.1]
   have hq1 : (h / 2).tmod 2 = (h / 2) % 2:=by have:=HH.out;rw [Int.tmod_eq_emod_of_nonneg (by omega)]
   cases hb0 : bitB h 1 with
   | false =>
    have hc : ¬ (h / 2) % 2 = 1:=of_decide_eq_false (by rw [← hbits.2.1];exact hb0)
    have ht : (h / 2) % 2 = 0:=by have:=HH.out;omega
    clear hc
    have e1:=E2.out
    rw [stepP,hb0,if_neg (by decide)] at e1
    simp only [Option.some.injEq,Prod.mk.injEq] at e1
    obtain ⟨rfl,rfl,rfl,rfl,rfl,rfl⟩:=e1
    clear hbits hb0
    go_wp2
    go_meet
    case rel=>exact ⟨by first|trivial|rfl,HBG,HPW⟩
   | true =>
    have hc : (h / 2) % 2 = 1:=of_decide_eq_true (by rw [← hbits.2.1];exact hb0)
    have e1:=E2.out
    rw [stepP,hb0,if_pos rfl] at e1
    obtain ⟨⟨n_,p_,ok_⟩,htake,e1⟩:=Option.bind_eq_some_iff.1 e1
    simp only [Option.some.injEq,Prod.mk.injEq] at e1
    obtain ⟨rfl,rfl,rfl,rfl,rfl,rfl⟩:=e1
    obtain ⟨A5,c5,hb5,hl5,hF5⟩:=HBG.out.rd
    obtain ⟨dd,hdd⟩ : ∃ d,d = (bad1 || !ok_):=⟨_,rfl⟩
    have hcl:=ratlineref09_reader_num.calls 51 A5 c5 q1 bad1 n_ p_ dd wA1 (Kd.F_now hF5) hl5 (by rw [rnum_f K1.out.2.1 K1.out.2.2 htake,hdd])
    have hr0:=(blk_cell hb5 0).trans rfl
    have hr1:=(blk_cell hb5 1).trans rfl
    have HB5:=Aside0.mk hb5
    have HCL:=Aside0.mk hcl
    have HDD:=Aside0.mk hdd
    clear hdd
    clear hbits hb0 hcl htake hb5 hl5 hF5
    go_wp2_with (go_at_call 36;refine HCL.out.mono ?_;rintro e w4 ⟨v4,rfl,hv4,hd4⟩;obtain ⟨A4,c4,hvv4,hl4,hF4⟩:=Fb.fresh hv4;subst hvv4;have HB7:=Aside0.mk (HBG.out.num (bad':=dd) hd4 hl4 hF4 1 (.int .u64 n_) rfl);have HP7:=Aside0.mk ((((HPW.out.below hd4).set (p:=⟨g,1,none⟩) HG.out.2.1 (.int .u64 n_)).set (p:=⟨r,0,none⟩) HG.out.1 (.slice A4 p_.length c4)).set (p:=⟨r,1,none⟩) HG.out.1 (.bool dd));have hg7:=(hd4.block _ (blk_lt HBG.out.bx)).trans HBG.out.bx;have hb7:=blk_far (p:=⟨g,1,none⟩) ((hd4.block _ (blk_lt HB5.out)).trans HB5.out) (fun e=>HG.out.2.2.2.2.1 e.symm) (.int .u64 n_);clear hr0 hr1;have hx0:=(blk_cell hb7 0).trans rfl;have hx1:=(blk_cell hb7 1).trans rfl;have hf0:=blk_frozen hb7 0;have hf1:=blk_frozen hb7 1;have hm0:=(blk_cell hg7 1).trans rfl;have hg0:=blk_frozen hg7 1;clear hv4 hd4 hl4 hF4 hb7 hg7)
    go_meet
    case rel =>
     have hdd:=HDD.out
     subst hdd
     exact ⟨by first|trivial|rfl,HB7,HP7⟩
  case rest =>
   obtain ⟨rfl,HBG1,HPW1⟩:=hcut
   clear E2 HBG HPW hat
   have HBG:=HBG1
   have HPW:=HPW1
   clear HBG1 HPW1
   obtain ⟨wA2,hwA2⟩ : ∃ W,W = wc:=⟨_,rfl⟩
   subst hwA2
   obtain ⟨l3,x2,y2,z2,q3,bad3⟩:=s3
   have hat:=HAT.out wA2 HPW.out.bel
   go_upto_if 97 with (fail)
   go_cut [] (fun wc=>l3 = l2 ∧ Aside0 (Beg base r g (fun k=>k < w.heap.size) (.slice A l2.length c) l2 x2 y2 z2 q3 bad3 wc) ∧ Aside0 (PW w wc))
   case first =>
    have hq0 : h.tdiv 4 = h / 4:=by have:=HH.out;rw [Int.tdiv_eq_ediv_of_nonneg this.1]
    have hq1 : (h / 4).tmod 2 = (h / 4) % 2:=by have:=HH.out;rw [Int.tmod_eq_emod_of_nonneg (by omega)]
    cases hb0 : bitB h 2 with
    | false =>
     have hc : ¬ (h / 4) % 2 = 1:=of_decide_eq_false (by rw [← hbits.2.2.1];exact hb0)
     have ht : (h / 4) % 2 = 0:=by have:=HH.out;omega
     clear hc
     have e1:=E3.out
     rw [stepP,hb0,if_neg (by decide)] at e1
     simp only [Option.some.injEq,Prod.mk.injEq] at e1
     obtain ⟨rfl,rfl,rfl,rfl,rfl,rfl⟩:=e1
     clear hbits hb0
     go_wp2
     go_meet
     case rel=>exact ⟨by first|trivial|rfl,HBG,HPW⟩
    | true =>
     have hc : (h / 4) % 2 = 1:=of_decide_eq_true (by rw [← hbits.2.2.1];exact hb0)
     have e1:=E3.out
     rw [stepP,hb0,if_pos rfl] at e1
     obtain ⟨⟨n_,p_,ok_⟩,htake,e1⟩:=Option.bind_eq_some_iff.1 e1
     simp only [Option.some.injEq,Prod.mk.injEq] at e1
     obtain ⟨rfl,rfl,rfl,rfl,rfl,rfl⟩:=e1
     obtain ⟨A5,c5,hb5,hl5,hF5⟩:=HBG.out.rd
     obtain ⟨dd,hdd⟩ : ∃ d,d = (bad2 || !ok_):=⟨_,rfl⟩
     have hcl:=ratlineref09_reader_num.calls 51 A5 c5 q2 bad2 n_ p_ dd wA2 (Kd.F_now hF5) hl5 (by rw [rnum_f K2.out.2.1 K2.out.2.2 htake,hdd])
     have hr0:=(blk_cell hb5 0).trans rfl
     have hr1:=(blk_cell hb5 1).trans rfl
     have HB5:=Aside0.mk hb5
     have HCL:=Aside0.mk hcl
     have HDD:=Aside0.mk hdd
     clear hdd
     clear hbits hb0 hcl htake hb5 hl5 hF5
     go_wp2_with (go_at_call 36;refine HCL.out.mono ?_;rintro e w4 ⟨v4,rfl,hv4,hd4⟩;obtain ⟨A4,c4,hvv4,hl4,hF4⟩:=Fb.fresh hv4;subst hvv4;have HB7:=Aside0.mk (HBG.out.num (bad':=dd) hd4 hl4 hF4 2 (.int .u64 n_) rfl);have HP7:=Aside0.mk ((((HPW.out.below hd4).set (p:=⟨g,2,none⟩) HG.out.2.1 (.int .u64 n_)).set (p:=⟨r,0,none⟩) HG.out.1 (.slice A4 p_.length c4)).set (p:=⟨r,1,none⟩) HG.out.1 (.bool dd));have hg7:=(hd4.block _ (blk_lt HBG.out.bx)).trans HBG.out.bx;have hb7:=blk_far (p:=⟨g,2,none⟩) ((hd4.block _ (blk_lt HB5.out)).trans HB5.out) (fun e=>HG.out.2.2.2.2.1 e.symm) (.int .u64 n_);clear hr0 hr1;have hx0:=(blk_cell hb7 0).trans rfl;have hx1:=(blk_cell hb7 1).trans rfl;have hf0:=blk_frozen hb7 0;have hf1:=blk_frozen hb7 1;have hm0:=(blk_cell hg7 2).trans rfl;have hg0:=blk_frozen hg7 2;clear hv4 hd4 hl4 hF4 hb7 hg7)
     go_meet
     case rel =>
      have hdd:=HDD.out
      subst hdd
      exact ⟨by first|trivial|rfl,HB7,HP7⟩
   case rest =>
    obtain ⟨rfl,HBG2,HPW2⟩:=hcut
    clear E3 HBG HPW hat
    have HBG:=HBG2
    have HPW:=HPW2
    clear HBG2 HPW2
    obtain ⟨wA3,hwA3⟩ : ∃ W,W = wc:=⟨_,rfl⟩
    subst hwA3
    obtain ⟨l4,x3,y3,z3,q4,bad4⟩:=s4
    have hat:=HAT.out wA3 HPW.out.bel
    go_upto_if 108 with (fail)
    go_cut [] (fun wc=>l4 = l3 ∧ Aside0 (Beg base r g (fun k=>k < w.heap.size) (.slice A l3.length c) l3 x3 y3 z3 q4 bad4 wc) ∧ Aside0 (PW w wc))
    case first =>
     have hq0 : h.tdiv 8 = h / 8:=by have:=HH.out;rw [Int.tdiv_eq_ediv_of_nonneg this.1]
     cases hb0 : bitB h 3 with
     | false =>
      have hc : ¬ h / 8 = 1:=of_decide_eq_false (by rw [← hbits.2.2.2];exact hb0)
      have ht : h / 8 = 0:=by have:=HH.out;omega
      clear hc
      have e1:=E4.out
      rw [show stepP h 3 (l3,x2,y2,z2,q3,bad3) = if bitB h 3 = true then (nums_Take.f q3).bind fun t=>some (l3,x2,y2,t.1,t.2.1,bad3 || !t.2.2) else some (l3,x2,y2,z2,q3,bad3) from rfl,hb0,if_neg (by decide)] at e1
      simp only [Option.some.injEq,Prod.mk.injEq] at e1
      obtain ⟨rfl,rfl,rfl,rfl,rfl,rfl⟩:=e1
      clear hbits hb0
      go_wp2
      go_meet
      case rel=>exact ⟨by first|trivial|rfl,HBG,HPW⟩
     | true =>
      have hc : h / 8 = 1:=of_decide_eq_true (by rw [← hbits.2.2.2];exact hb0)
      have e1:=E4.out
      rw [show stepP h 3 (l3,x2,y2,z2,q3,bad3) = if bitB h 3 = true then (nums_Take.f q3).bind fun t=>some (l3,x2,y2,t.1,t.2.1,bad3 || !t.2.2) else some (l3,x2,y2,z2,q3,bad3) from rfl,hb0,if_pos rfl] at e1
      obtain ⟨⟨n_,p_,ok_⟩,htake,e1⟩:=Option.bind_eq_some_iff.1 e1
      simp only [Option.some.injEq,Prod.mk.injEq] at e1
      obtain ⟨rfl,rfl,rfl,rfl,rfl,rfl⟩:=e1
      obtain ⟨A5,c5,hb5,hl5,hF5⟩:=HBG.out.rd
      obtain ⟨dd,hdd⟩ : ∃ d,d = (bad3 || !ok_):=⟨_,rfl⟩
      have hcl:=ratlineref09_reader_num.calls 51 A5 c5 q3 bad3 n_ p_ dd wA3 (Kd.F_now hF5) hl5 (by rw [rnum_f K3.out.2.1 K3.out.2.2 htake,hdd])
      have hr0:=(blk_cell hb5 0).trans rfl
      have hr1:=(blk_cell hb5 1).trans rfl
      have HB5:=Aside0.mk hb5
      have HCL:=Aside0.mk hcl
      have HDD:=Aside0.mk hdd
      clear hdd
      clear hbits hb0 hcl htake hb5 hl5 hF5
      go_wp2_with (go_at_call 36;refine HCL.out.mono ?_;rintro e w4 ⟨v4,rfl,hv4,hd4⟩;obtain ⟨A4,c4,hvv4,hl4,hF4⟩:=Fb.fresh hv4;subst hvv4;have HB7:=Aside0.mk (HBG.out.num (bad':=dd) hd4 hl4 hF4 3 (.int .u64 n_) rfl);have HP7:=Aside0.mk ((((HPW.out.below hd4).set (p:=⟨g,3,none⟩) HG.out.2.1 (.int .u64 n_)).set (p:=⟨r,0,none⟩) HG.out.1 (.slice A4 p_.length c4)).set (p:=⟨r,1,none⟩) HG.out.1 (.bool dd));have hg7:=(hd4.block _ (blk_lt HBG.out.bx)).trans HBG.out.bx;have hb7:=blk_far (p:=⟨g,3,none⟩) ((hd4.block _ (blk_lt HB5.out)).trans HB5.out) (fun e=>HG.out.2.2.2.2.1 e.symm) (.int .u64 n_);clear hr0 hr1;have hx0:=(blk_cell hb7 0).trans rfl;have hx1:=(blk_cell hb7 1).trans rfl;have hf0:=blk_frozen hb7 0;have hf1:=blk_frozen hb7 1;have hm0:=(blk_cell hg7 3).trans rfl;have hg0:=blk_frozen hg7 3;clear hv4 hd4 hl4 hF4 hb7 hg7)
      go_meet
      case rel =>
       have hdd:=HDD.out
       subst hdd
       exact ⟨by first|trivial|rfl,HB7,HP7⟩
    case rest =>
     obtain ⟨rfl,HBG3,HPW3⟩:=hcut
     clear E4 HBG HPW hat
     have HBG:=HBG3
     have HPW:=HPW3
     clear HBG3 HPW3
     obtain ⟨wA4,hwA4⟩ : ∃ W,W = wc:=⟨_,rfl⟩
     subst hwA4
     have hff:=HF.out
     unfold edit_Parse.f at hff
     simp only at hff
     have hrun : runP h 4 0 ([],0,0,0,t,false) = some (l4,x3,y3,z3,q4,bad4):=HRUN.out
     rw [hrun,Option.bind_some] at hff
     obtain ⟨⟨by_,er⟩,hby,hff⟩:=Option.bind_eq_some_iff.1 hff
     have hby2 : ratlineref09_Bytes.f l4 x3 y3 z3 = some (by_,er):=hby
     have HBYT:=Aside0.mk hby2
     have her : er = 0 ∨ er = 90:=by
      unfold edit_Bytes.f at hby
      by_cases h7 : WfE l4 x3 y3 z3
      ·rw [if_pos h7] at hby
       have h8:=Option.some.inj hby
       by_cases h6 : rightB l4 x3 y3 z3 = true
       ·rw [if_pos h6] at h8
        exact .inl (congrArg Prod.snd h8).symm
       ·rw [if_neg h6] at h8
        exact .inr (congrArg Prod.snd h8).symm
      ·rw [if_neg h7] at hby
       cases hby
     have hbx:=HBG.out.bx
     have hy0 : wA4.cell? ⟨g,0,none⟩ = some (.slice A l4.length c):=(blk_cell hbx 0).trans rfl
     have hy1 : wA4.cell? ⟨g,1,none⟩ = some (.int .u64 x3):=(blk_cell hbx 1).trans rfl
     have hy2 : wA4.cell? ⟨g,2,none⟩ = some (.int .u64 y3):=(blk_cell hbx 2).trans rfl
     have hy3 : wA4.cell? ⟨g,3,none⟩ = some (.int .u64 z3):=(blk_cell hbx 3).trans rfl
     have HFF:=Aside0.mk hff
     clear hbx hff hrun hby hby2 hbits HF HRUN K1 K2 K3 K4
     by_cases hbad : bad4 = true ∨ er ≠ 0
     ·have hff:=HFF.out
      rw [if_pos (hbad.elim .inl (fun x=>.inr (.inl x)))] at hff
      simp only [Option.some.injEq,Prod.mk.injEq] at hff
      obtain ⟨rfl,rfl,rfl,rfl,rfl⟩:=hff
      have hcs : (bad4 = true) ∨ (bad4 = false ∧ er = 90):=by
       cases bad4 with
       | true=>exact .inl rfl
       | false=>exact .inr ⟨rfl,by rcases her with h1|h1;(· exact absurd h1 (by simpa using hbad));exact h1⟩
      clear hbad her HFF
      rcases hcs with rfl|⟨rfl,rfl⟩
      all_goals
       go_wp2_with (go_at_call 12;refine (ratlineref09_Bytes.calls A c l4 x3 y3 z3 by_ _ wA4 (Kd.R_reads' HBG.out.row).2.2 (Kd.R_reads' HBG.out.row).2.1 HBYT.out).mono ?_;rintro e w6 ⟨v6,rfl,hv6,hd6⟩;have HB6:=Aside0.mk (HBG.out.below hd6);have HP6:=Aside0.mk (HPW.out.below hd6);obtain ⟨A6,c6,e6⟩:=Kd.R_slice hv6;subst e6;have hcv1:=Kd.C_string (P:=Try.prog) (A:=A6) (c:=c6) Try.underlying26 Try.underlying5 Try.underlying9 (Kd.R_reads' hv6).2.2;have hcv2:=Kd.C_string (P:=Try.prog) (A:=some ad) (c:=c0) Try.underlying26 Try.underlying5 Try.underlying9 (Kd.C_below HR0.out (HPW.out.below hd6).bel);rw [List.length_cons] at hcv2;clear hy0 hy1 hy2 hy3;obtain ⟨A7,c7,hb7,_,_⟩:=HB6.out.rd;have hr1:=(blk_cell hb7 1).trans rfl;have hz:=HP6.out.res;have hz0:=(blk_cell hz 0).trans rfl;have hz1:=(blk_cell hz 1).trans rfl;have hz2:=(blk_cell hz 2).trans rfl;have hz3:=(blk_cell hz 3).trans rfl;have hg0:=blk_frozen hz 0;have hg1:=blk_frozen hz 1;have hg2:=blk_frozen hz 2;have hg3:=blk_frozen hz 3;clear hb7 hz hv6 hd6)
       refine bodyPost_ret (results_ct rfl _ _ w.heap.size 25 #[.slice none 0 0,.int .u64 0,.int .u64 0,.int .u64 0] (0,0) _ rfl (blk_put (cs':=#[.slice none 0 0,.int .u64 0,.int .u64 0,.int .u64 0]) (blk_put (cs':=#[.slice none 0 0,.int .u64 0,.int .u64 0,.int .u64 0]) (blk_put (cs':=#[.slice none 0 0,.int .u64 0,.int .u64 0,.int .u64 0]) (blk_put (cs':=#[.slice none 0 0,.int .u64 0,.int .u64 0,.int .u64 0]) HP6.out.res 0 _ rfl) 1 _ rfl) 2 _ rfl) 3 _ rfl) hu rfl (by kernel_rfl)) rfl ?_
       exact ⟨_,rfl,Kd.R_nil _ _ _ _ _,(((HP6.out.bel.setCell (p:=⟨w.heap.size,0,none⟩) (Nat.le_refl _) _).setCell (p:=⟨w.heap.size,1,none⟩) (Nat.le_refl _) _).setCell (p:=⟨w.heap.size,2,none⟩) (Nat.le_refl _) _).setCell (p:=⟨w.heap.size,3,none⟩) (Nat.le_refl _) _⟩
     ·have hbf : bad4 = false:=by cases bad4 with|true=>exact absurd (.inl rfl) hbad|false=>rfl
      have he0 : er = 0:=by rcases her with h1|h1;(· exact h1);exact absurd (.inr (by rw [h1];decide)) hbad
      subst hbf
      subst he0
      clear hbad her
      have hff:=HFF.out
      cases hsm : sameB by_ (h :: t) with
      | false =>
       rw [if_pos (.inr (.inr hsm))] at hff
       simp only [Option.some.injEq,Prod.mk.injEq] at hff
       obtain ⟨rfl,rfl,rfl,rfl,rfl⟩:=hff
       have hsm' : ((strOfNums by_).toList == (strOfNums (h :: t)).toList) = false:=hsm
       clear hsm HFF
       go_wp2_with (go_at_call 12;refine (ratlineref09_Bytes.calls A c l4 x3 y3 z3 by_ _ wA4 (Kd.R_reads' HBG.out.row).2.2 (Kd.R_reads' HBG.out.row).2.1 HBYT.out).mono ?_;rintro e w6 ⟨v6,rfl,hv6,hd6⟩;have HB6:=Aside0.mk (HBG.out.below hd6);have HP6:=Aside0.mk (HPW.out.below hd6);obtain ⟨A6,c6,e6⟩:=Kd.R_slice hv6;subst e6;have hcv1:=Kd.C_string (P:=Try.prog) (A:=A6) (c:=c6) Try.underlying26 Try.underlying5 Try.underlying9 (Kd.R_reads' hv6).2.2;have hcv2:=Kd.C_string (P:=Try.prog) (A:=some ad) (c:=c0) Try.underlying26 Try.underlying5 Try.underlying9 (Kd.C_below HR0.out (HPW.out.below hd6).bel);rw [List.length_cons] at hcv2;clear hy0 hy1 hy2 hy3;obtain ⟨A7,c7,hb7,_,_⟩:=HB6.out.rd;have hr1:=(blk_cell hb7 1).trans rfl;have hz:=HP6.out.res;have hz0:=(blk_cell hz 0).trans rfl;have hz1:=(blk_cell hz 1).trans rfl;have hz2:=(blk_cell hz 2).trans rfl;have hz3:=(blk_cell hz 3).trans rfl;have hg0:=blk_frozen hz 0;have hg1:=blk_frozen hz 1;have hg2:=blk_frozen hz 2;have hg3:=blk_frozen hz 3;clear hb7 hz hv6 hd6)
       refine bodyPost_ret (results_ct rfl _ _ w.heap.size 25 #[.slice none 0 0,.int .u64 0,.int .u64 0,.int .u64 0] (0,0) _ rfl (blk_put (cs':=#[.slice none 0 0,.int .u64 0,.int .u64 0,.int .u64 0]) (blk_put (cs':=#[.slice none 0 0,.int .u64 0,.int .u64 0,.int .u64 0]) (blk_put (cs':=#[.slice none 0 0,.int .u64 0,.int .u64 0,.int .u64 0]) (blk_put (cs':=#[.slice none 0 0,.int .u64 0,.int .u64 0,.int .u64 0]) HP6.out.res 0 _ rfl) 1 _ rfl) 2 _ rfl) 3 _ rfl) hu rfl (by kernel_rfl)) rfl ?_
       exact ⟨_,rfl,Kd.R_nil _ _ _ _ _,(((HP6.out.bel.setCell (p:=⟨w.heap.size,0,none⟩) (Nat.le_refl _) _).setCell (p:=⟨w.heap.size,1,none⟩) (Nat.le_refl _) _).setCell (p:=⟨w.heap.size,2,none⟩) (Nat.le_refl _) _).setCell (p:=⟨w.heap.size,3,none⟩) (Nat.le_refl _) _⟩
      | true =>
       rw [if_neg (by rintro (h1|h1|h1);(· cases h1);(· exact h1 rfl);rw [hsm] at h1;cases h1)] at hff
       simp only [Option.some.injEq,Prod.mk.injEq] at hff
       obtain ⟨rfl,rfl,rfl,rfl,rfl⟩:=hff
       have hsm' : ((strOfNums by_).toList == (strOfNums (h :: t)).toList) = true:=hsm
       clear hsm HFF
       go_wp2_with (go_at_call 12;refine (ratlineref09_Bytes.calls A c l4 x3 y3 z3 by_ _ wA4 (Kd.R_reads' HBG.out.row).2.2 (Kd.R_reads' HBG.out.row).2.1 HBYT.out).mono ?_;rintro e w6 ⟨v6,rfl,hv6,hd6⟩;have HB6:=Aside0.mk (HBG.out.below hd6);have HP6:=Aside0.mk (HPW.out.below hd6);obtain ⟨A6,c6,e6⟩:=Kd.R_slice hv6;subst e6;have hcv1:=Kd.C_string (P:=Try.prog) (A:=A6) (c:=c6) Try.underlying26 Try.underlying5 Try.underlying9 (Kd.R_reads' hv6).2.2;have hcv2:=Kd.C_string (P:=Try.prog) (A:=some ad) (c:=c0) Try.underlying26 Try.underlying5 Try.underlying9 (Kd.C_below HR0.out (HPW.out.below hd6).bel);rw [List.length_cons] at hcv2;clear hy0 hy1 hy2 hy3;obtain ⟨A7,c7,hb7,_,_⟩:=HB6.out.rd;have hr1:=(blk_cell hb7 1).trans rfl;have hz:=HP6.out.res;have hz0:=(blk_cell hz 0).trans rfl;have hz1:=(blk_cell hz 1).trans rfl;have hz2:=(blk_cell hz 2).trans rfl;have hz3:=(blk_cell hz 3).trans rfl;have hg0:=blk_frozen hz 0;have hg1:=blk_frozen hz 1;have hg2:=blk_frozen hz 2;have hg3:=blk_frozen hz 3;have hx:=HB6.out.bx;have hy0:=(blk_cell hx 0).trans rfl;have hy1:=(blk_cell hx 1).trans rfl;have hy2:=(blk_cell hx 2).trans rfl;have hy3:=(blk_cell hx 3).trans rfl;have hne : (g = w.heap.size) = False:=eq_false (by have:=HG.out;omega);clear hx;clear hb7 hz hv6 hd6)
       refine bodyPost_ret (results_ct rfl _ _ w.heap.size 25 #[.slice A l4.length c,.int .u64 x3,.int .u64 y3,.int .u64 z3] (0,0) _ rfl (blk_put (cs':=#[.slice A l4.length c,.int .u64 x3,.int .u64 y3,.int .u64 z3]) (blk_put (cs':=#[.slice A l4.length c,.int .u64 x3,.int .u64 y3,.int .u64 0]) (blk_put (cs':=#[.slice A l4.length c,.int .u64 x3,.int .u64 0,.int .u64 0]) (blk_put (cs':=#[.slice A l4.length c,.int .u64 0,.int .u64 0,.int .u64 0]) HP6.out.res 0 _ rfl) 1 _ rfl) 2 _ rfl) 3 _ rfl) hu rfl (by kernel_rfl)) rfl ?_
       exact ⟨_,rfl,Kd.R_mono (Kd.R_far (p:=⟨w.heap.size,3,none⟩) (Kd.R_far (p:=⟨w.heap.size,2,none⟩) (Kd.R_far (p:=⟨w.heap.size,1,none⟩) (Kd.R_far (p:=⟨w.heap.size,0,none⟩) (Kd.R_types (Kd.R_lower HB6.out.row (by have:=HG.out;omega)) HP6.out.res (by decide)) (fun k hk=>hk.2) _) (fun k hk=>hk.2) _) (fun k hk=>hk.2) _) (fun k hk=>hk.2) _) (fun _ _=>trivial),(((HP6.out.bel.setCell (p:=⟨w.heap.size,0,none⟩) (Nat.le_refl _) _).setCell (p:=⟨w.heap.size,1,none⟩) (Nat.le_refl _) _).setCell (p:=⟨w.heap.size,2,none⟩) (Nat.le_refl _) _).setCell (p:=⟨w.heap.size,3,none⟩) (Nat.le_refl _) _⟩
theorem rparse_big (A0 : Option Addr) (c0 : Nat) (h : Int) (t : List Int) (w : World) (hr0 : Kd.C (Kd.int .u8) w A0 (h :: t).length (h :: t)) (hc0 : (h :: t).length ≤ c0) (hh : ¬ h ≤ 15) :
  Calls Try.prog 14 #[.slice A0 (h :: t).length c0] w fun e w'=>∃ v0_ : Value,e = .returned (.tuple #[.agg #[v0_,.int .u64 0,.int .u64 0,.int .u64 0],.int .i64 90]) ∧ Kd.R k58 58 w' w.heap.size (fun _=>True) v0_ [] ∧ Below w.heap.size w w':=by
 obtain ⟨ad,e,hcc⟩:=(Kd.reads_of_C (d:=(0 : Int)) hr0).2.2 (by simp)
 subst e
 have hu:=Try.underlying25
 have hn0 : ((t.length + 1 : Nat) : Int) ≠ 0:=by omega
 have hn1 : decide ((t.length : Int) + 1 = 0) = false:=decide_eq_false (by omega)
 have hn2 : (((t.length : Int) + 1) == 0) = false:=by rw [beq_eq_false_iff_ne];omega
 have hh1 : decide (15 < h) = true:=decide_eq_true (by omega)
 have hh2 : decide (h > 15) = true:=hh1
 have h00 : w.cell? ad = some (.int .u8 h):=by
  have h0:=hcc 0 (by simp)
  simp only [List.getD_cons_zero] at h0
  simpa [Addr.add] using h0
 clear hr0 hc0 hcc hh
 go_enter Try.func14,Try.ntmps14
 have h01:=pw_cell_below (below_alloc (Below.refl _ _) (eBx (.slice none 0 0) 0 0 0)) h00
 go_wp2
 refine bodyPost_ret (results_ct rfl _ _ w.heap.size 25 #[.slice none 0 0,.int .u64 0,.int .u64 0,.int .u64 0] (0,0) _ rfl (World.alloc_heap_new w _) hu rfl (by kernel_rfl)) rfl ?_
 exact ⟨_,rfl,Kd.R_nil _ _ _ _ _,below_alloc (Below.refl _ _) _⟩
end Go.Proofs.YtcagajobpnpicaaH
namespace Go.Proofs.YtcagajobpnpicaaG
open Go Go.RowKit Go.Proofs.YtcagajobpnpicaaR Go.Proofs.YtcagajobpnpicaaL Go.Proofs.Ytcagajobpnpicaa.P Go.Proofs.YtcagajobpnpicaaW.PrintWords Go.Proofs.YtcagajobpnpicaaH
def ratlineref09_Parse.f (l : List Int) : Option (List MetaS × Int × Int × Int × Int):=if (∀ c ∈ l,0 ≤ c ∧ c < 256) ∧ l.length ≤ 1000000 then edit_Parse.f l else none
theorem parse_high {h : Int} {t : List Int} {r1 : List MetaS} {r2 r3 r4 r5 : Int} (hby : By (h :: t)) (hlen : (h :: t).length ≤ 1000000) (hh : ¬ h ≤ 15) (hf : edit_Parse.f (h :: t) = some (r1,r2,r3,r4,r5)) : r1 = [] ∧ r2 = 0 ∧ r3 = 0 ∧ r4 = 0 ∧ r5 = 90:=by
 rcases eparse_any (h :: t) hby (by unfold big;omega) with ⟨l,a,b,c,_,_,he,_⟩|he
 ·have:=headF_le l a b c
  unfold formE at he
  simp only [List.cons.injEq] at he
  omega
 ·rw [hf] at he
  simpa using he
theorem ratlineref09_Parse.calls (A0 : Option Addr) (c0 : Nat) (l0 : List Int) (r1 : List MetaS) (r2 r3 r4 r5 : Int) (w : World) (hr0 : Kd.C (Kd.int .u8) w A0 l0.length l0) (hc0 : l0.length ≤ c0) (h : ratlineref09_Parse.f l0 = some (r1,r2,r3,r4,r5)) :
  Calls Try.prog 14 #[.slice A0 l0.length c0] w fun e w'=>∃ v0_ : Value,e = .returned (.tuple #[.agg #[v0_,.int .u64 r2,.int .u64 r3,.int .u64 r4],.int .i64 r5]) ∧ Kd.R k58 58 w' w.heap.size (fun _=>True) v0_ r1 ∧ Below w.heap.size w w':=by
 unfold ratlineref09_Parse.f at h
 by_cases hc : (∀ c ∈ l0,0 ≤ c ∧ c < 256) ∧ l0.length ≤ 1000000
 ·rw [if_pos hc] at h
  have hby : By l0:=hc.1
  cases l0 with
  | cons x t =>
   by_cases hh : x ≤ 15
   ·have u0 : U64 0:=⟨by decide,by decide⟩
    obtain ⟨s1,e1,k1⟩:=stepP_any x 0 ([],0,0,0,t,false) ⟨⟨fun m hm=>(by cases hm),u0,u0,u0⟩,hby.tail,by show t.length < big;have:=hc.2;rw [List.length_cons] at this;unfold big;omega⟩
    obtain ⟨s2,e2,k2⟩:=stepP_any x 1 s1 k1
    obtain ⟨s3,e3,k3⟩:=stepP_any x 2 s2 k2
    obtain ⟨s4,e4,k4⟩:=stepP_any x 3 s3 k3
    exact rparse_cons A0 c0 x t s1 s2 s3 s4 r1 r2 r3 r4 r5 w hr0 hc0 hby hc.2 hh e1 e2 e3 e4 k1 k2 k3 k4 h
   ·obtain ⟨rfl,rfl,rfl,rfl,rfl⟩:=parse_high hby hc.2 hh h
    exact rparse_big A0 c0 x t w hr0 hc0 hh
  | nil =>
   unfold edit_Parse.f at h
   simp only [Option.some.injEq,Prod.mk.injEq] at h
   obtain ⟨rfl,rfl,rfl,rfl,rfl⟩:=h
   have hu:=Try.underlying25
   clear hr0 hc0
   go_enter Try.func14,Try.ntmps14
   go_wp2
   refine bodyPost_ret (results_ct rfl _ _ w.heap.size 25 #[.slice none 0 0,.int .u64 0,.int .u64 0,.int .u64 0] (0,0) _ rfl (World.alloc_heap_new w _) hu rfl (by kernel_rfl)) rfl ?_
   exact ⟨_,rfl,Kd.R_nil _ _ _ _ _,below_alloc (Below.refl _ _) _⟩
 ·rw [if_neg hc] at h
  cases h
end Go.Proofs.YtcagajobpnpicaaG

end

section
namespace Go.Proofs.Ytcagajobpnpicaa.P
open Go.RowKit Go.Proofs.YtcagajobpnpicaaG Go.Proofs.YtcagajobpnpicaaW.PrintWords Go.Proofs.YtcagajobpnpicaaW.PrintLast Go.Proofs.YtcagajobpnpicaaW.PrintMore
attribute [local go_sem] str_gtr str_geq str_leq max2_int min2_int max_two min_two max_three min_three max_four min_four   -- for this text's walks alone
set_option linter.unusedVariables false
set_option linter.unusedSimpArgs false

mutual
def ratlinelaw09_EditTells.j0 : Nat → List Int → Bool → List (S58) → Int → Int → Int → List (S58) → Int → Int → Int → List (S58) → Int → Int → Int → Option (Bool)
 | 0,_,_,_,_,_,_,_,_,_,_,_,_,_,_=>none
 | k + 1,x2,x32,x253000,x253001,x253002,x253003,x254000,x254001,x254002,x254003,x255000,x255001,x255002,x255003=>if x32 = true then ((ratlinelaw09_awake.f).bind fun t265=>(some t265)) else ((edit_Bytes.f x253000 x253001 x253002 x253003).bind fun bt266=>((ratlineref09_Bytes.f x253000 x253001 x253002 x253003).bind fun bt270=>((edit_Parse.f x2).bind fun bt274=>((ratlineref09_Parse.f x2).bind fun bt282=>((edit_Apply.f x255000 x255001 x255002 x255003 x253000 x253001 x253002 x253003).bind fun bt290=>((ratlineref09_Apply.f k x255000 x255001 x255002 x255003 x253000 x253001 x253002 x253003).bind fun bt298=>((edit_Right.f k x253000 x253001 x253002 x253003).bind fun t306=>((ratlineref09_Right.f k x253000 x253001 x253002 x253003).bind fun t307=>(if (t306 != t307) = true then (ratlinelaw09_EditTells.j1 k bt290.2.2.2.2 bt298.2.2.2.2 true x255000 x255001 x255002 x255003 bt290.1 bt290.2.1 bt290.2.2.1 bt290.2.2.2.1 bt298.1 bt298.2.1 bt298.2.2.1 bt298.2.2.2.1) else ((edit_Same.f k x253000 x253001 x253002 x253003 x254000 x254001 x254002 x254003).bind fun t308=>((ratlineref09_Same.f k x253000 x253001 x253002 x253003 x254000 x254001 x254002 x254003).bind fun t309=>(if (t308 != t309) = true then (ratlinelaw09_EditTells.j1 k bt290.2.2.2.2 bt298.2.2.2.2 true x255000 x255001 x255002 x255003 bt290.1 bt290.2.1 bt290.2.2.1 bt290.2.2.2.1 bt298.1 bt298.2.1 bt298.2.2.1 bt298.2.2.2.1) else ((ratlinelaw02_Same.f bt266.1 bt270.1).bind fun t310=>(if t310 = true then (if bt266.2 = bt270.2 then ((ratlineref09_Same.f k bt274.1 bt274.2.1 bt274.2.2.1 bt274.2.2.2.1 bt282.1 bt282.2.1 bt282.2.2.1 bt282.2.2.2.1).bind fun t311=>(if t311 = true then (ratlinelaw09_EditTells.j1 k bt290.2.2.2.2 bt298.2.2.2.2 (bt274.2.2.2.2 != bt282.2.2.2.2) x255000 x255001 x255002 x255003 bt290.1 bt290.2.1 bt290.2.2.1 bt290.2.2.2.1 bt298.1 bt298.2.1 bt298.2.2.1 bt298.2.2.2.1) else (ratlinelaw09_EditTells.j1 k bt290.2.2.2.2 bt298.2.2.2.2 true x255000 x255001 x255002 x255003 bt290.1 bt290.2.1 bt290.2.2.1 bt290.2.2.2.1 bt298.1 bt298.2.1 bt298.2.2.1 bt298.2.2.2.1))) else (ratlinelaw09_EditTells.j1 k bt290.2.2.2.2 bt298.2.2.2.2 true x255000 x255001 x255002 x255003 bt290.1 bt290.2.1 bt290.2.2.1 bt290.2.2.2.1 bt298.1 bt298.2.1 bt298.2.2.1 bt298.2.2.2.1)) else (ratlinelaw09_EditTells.j1 k bt290.2.2.2.2 bt298.2.2.2.2 true x255000 x255001 x255002 x255003 bt290.1 bt290.2.1 bt290.2.2.1 bt290.2.2.2.1 bt298.1 bt298.2.1 bt298.2.2.1 bt298.2.2.2.1)))))))))))))))
def ratlinelaw09_EditTells.j1 : Nat → Int → Int → Bool → List (S58) → Int → Int → Int → List (S58) → Int → Int → Int → List (S58) → Int → Int → Int → Option (Bool)
 | 0,_,_,_,_,_,_,_,_,_,_,_,_,_,_,_=>none
 | k + 1,x18,x20,x101,x255000,x255001,x255002,x255003,x298000,x298001,x298002,x298003,x306000,x306001,x306002,x306003=>if x101 = true then (none) else ((ratlinelaw09_Versions.f k x298000 x298001 x298002 x298003 x306000 x306001 x306002 x306003).bind fun t312=>(if t312 = true then (if x18 = x20 then ((edit_Whole.f x255000 x255001 x255002 x255003).bind fun bt313=>((ratlineref09_Whole.f x255000 x255001 x255002 x255003).bind fun bt319=>((ratlineref09_Same.f k bt313.1 bt313.2.1 bt313.2.2.1 bt313.2.2.2 bt319.1 bt319.2.1 bt319.2.2.1 bt319.2.2.2).bind fun t325=>(if t325 = true then ((ratlinelaw09_awake.f).bind fun t326=>(some t326)) else (none))))) else (none)) else (none)))
end
def ratlinelaw09_EditTells.f (k : Nat) (l0_0 : List (S58)) (a0_1 : Int) (a0_2 : Int) (a0_3 : Int) (l1_0 : List (S58)) (a1_1 : Int) (a1_2 : Int) (a1_3 : Int) (l2 : List Int) (l3_0 : List (S58)) (a3_1 : Int) (a3_2 : Int) (a3_3 : Int) : Option (Bool):=(ratlineref09_Whole.f l3_0 a3_1 a3_2 a3_3).bind fun bt255=>((ratlinelaw09_Few.f k (([(⟨l0_0,a0_1,a0_2,a0_3⟩ : S25),(⟨l1_0,a1_1,a1_2,a1_3⟩ : S25),(⟨bt255.1,bt255.2.1,bt255.2.2.1,bt255.2.2.2⟩ : S25)] : List (S25)))).bind fun t264=>(if t264 = true then (ratlinelaw09_EditTells.j0 k l2 (decide ((l2.length : Int) > 600)) l0_0 a0_1 a0_2 a0_3 l1_0 a1_1 a1_2 a1_3 l3_0 a3_1 a3_2 a3_3) else (ratlinelaw09_EditTells.j0 k l2 true l0_0 a0_1 a0_2 a0_3 l1_0 a1_1 a1_2 a1_3 l3_0 a3_1 a3_2 a3_3)))
def ratlinelaw09_EditTells.T1 : Bool × List (List Nat × List Nat):=(true,[([],[]),([],[]),([],[]),([2],[2]),([0,1,3],[0,1,3]),([4,3],[4]),([5],[5]),([6,5],[6]),([7],[7]),([8,7],[7,8]),([9,7],[7,9]),([7,10],[7,10])])
def ratlinelaw09_EditTells.B1 : List Nat:=[0,0,0,4,15,31,63,127,255,511,1023,2047]
theorem ratlinelaw09_EditTells.tab1 : rtab .any (opsOf Try.f3 1) = ratlinelaw09_EditTells.T1:=by kernel_rfl
theorem ratlinelaw09_EditTells.bits1 : waitsOk ratlinelaw09_EditTells.T1.2 ratlinelaw09_EditTells.B1 = true:=by kernel_rfl
def ratlinelaw09_EditTells.T9 : Bool × List (List Nat × List Nat):=(true,[([],[]),([0],[0]),([],[]),([2,1],[2]),([1,3],[1,3]),([4,3],[4]),([5],[5]),([5],[5]),([6,7,5,5],[5,6,7]),([5],[5]),([5],[5]),([9,10,8,5],[5,9,10]),([8,11,5],[5,8,11]),([5,12],[5,12]),([13,11],[13]),([14],[14]),([14],[14]),([15,16,14,14],[14,15,16]),([17,14],[14,17]),([14,18],[14,18]),([19,17],[19]),([20],[20]),([20],[20]),([21,22,20],[20,21,22]),([20,23],[20,23]),([24,20],[24]),([25],[25]),([25],[25]),([26,27,25,25],[25,26,27]),([28,25],[25,28]),([25,29],[25,29]),([30,28],[30]),([31],[31]),([31],[31]),([32,33,31],[31,32,33]),([31,34],[31,34])])
def ratlinelaw09_EditTells.B9 : List Nat:=[0,1,0,7,15,31,63,63,255,63,63,2047,4095,8191,16383,32767,32767,131071,262143,524287,1048575,2097151,2097151,8388607,16777215,33554431,67108863,67108863,268435455,536870911,1073741823,2147483647,4294967295,4294967295,17179869183,34359738367]
theorem ratlinelaw09_EditTells.tab9 : rtab .any (opsOf Try.f3 9) = ratlinelaw09_EditTells.T9:=by kernel_rfl
theorem ratlinelaw09_EditTells.bits9 : waitsOk ratlinelaw09_EditTells.T9.2 ratlinelaw09_EditTells.B9 = true:=by kernel_rfl
def ratlinelaw09_EditTells.T11 : Bool × List (List Nat × List Nat):=(true,[([],[]),([],[]),([0,1],[0,1]),([2,2],[2]),([3],[3]),([3],[3]),([4,5,3],[3,4,5]),([3,6],[3,6]),([7,3],[7]),([8],[8]),([9,8,8],[8,9]),([8],[8]),([11,10,8],[8,11]),([10,12,12,8],[8,10,12]),([8,13],[8,13]),([14,13],[14]),([15,15],[15]),([15,16],[15,16]),([17,16,0,1,2,3,4,5,6,7,8,9,10,11,12,13,14,15,16,17],[17])])
def ratlinelaw09_EditTells.B11 : List Nat:=[0,0,3,7,15,15,63,127,255,511,1023,511,4095,8191,16383,32767,65535,131071,262143]
theorem ratlinelaw09_EditTells.tab11 : rtab .any (opsOf Try.f3 11) = ratlinelaw09_EditTells.T11:=by kernel_rfl
theorem ratlinelaw09_EditTells.bits11 : waitsOk ratlinelaw09_EditTells.T11.2 ratlinelaw09_EditTells.B11 = true:=by kernel_rfl
end Go.Proofs.Ytcagajobpnpicaa.P

end

section
set_option linter.unusedVariables false
set_option linter.unusedSimpArgs false
namespace Go.Proofs.YtcagajobpnpicaaL
open Go Go.RowKit Go.Proofs.YtcagajobpnpicaaG Go.Proofs.Ytcagajobpnpicaa.P Go.Proofs.YtcagajobpnpicaaW.PrintWords Go.Proofs.YtcagajobpnpicaaW.PrintMore

instance decMeta : DecidableEq MetaS:=fun x y=>decidable_of_iff (x.f0 = y.f0 ∧ x.f1 = y.f1 ∧ x.f2 = y.f2 ∧ x.f3 = y.f3) (by cases x;cases y;simp)
theorem rd_meta (l : List MetaS) {j : Nat} (h : j < l.length) : rd_T58 l (j : Int) = l[j]:=getD_at h
theorem meta_ne (x y : MetaS) : ((!((x.f0) == (y.f0)) || (!((x.f1) == (y.f1)) || (!(((x.f2).toList) == ((y.f2).toList)) || (!(((x.f3).toList) == ((y.f3).toList)))))) = true) ↔ x ≠ y:=by
 obtain ⟨x0,x1,x2,x3⟩:=x
 obtain ⟨y0,y1,y2,y3⟩:=y
 simp only [Bool.or_eq_true,Bool.not_eq_true',beq_eq_false_iff_ne,ne_eq,ba_eq_iff,S58.mk.injEq]
 constructor
 ·rintro (h|h|h|h) ⟨h0,h1,h2,h3⟩
  ·exact h h0
  ·exact h h1
  ·exact h h2
  ·exact h h3
 ·intro h
  by_cases h0 : x0 = y0
  ·by_cases h1 : x1 = y1
   ·by_cases h2 : x2 = y2
    ·exact .inr (.inr (.inr (fun h3=>h ⟨h0,h1,h2,h3⟩)))
    ·exact .inr (.inr (.inl h2))
   ·exact .inr (.inl h1)
  ·exact .inl h0
theorem metas_loop (a b : List MetaS) (hl : a.length = b.length) (hm : a.length < 9223372036854775800) :
  ∀ (m j : Nat),j + m = a.length → Ev (fun k=>api_Meta_43.l0 k a b (a.length : Int) (j : Int)) (decide (a.drop j = b.drop j)):=by
 intro m
 induction m with
 | zero =>
  intro j hj
  obtain rfl : j = a.length:=by omega
  refine ev_step (fun k=>by rw [api_Meta_43.l0,if_neg (Int.lt_irrefl _)]) ?_
  rw [List.drop_length,hl,List.drop_length]
  simpa using ev_some _
 | succ m ih =>
  intro j hj
  have ha : j < a.length:=by omega
  have hb : j < b.length:=by omega
  refine ev_step (fun k=>by rw [api_Meta_43.l0,if_pos (by omega),if_pos (by omega),if_pos (by omega),if_pos (by omega),rd_meta a ha,rd_meta b hb,up1 (by omega)]) ?_
  rw [List.drop_eq_getElem_cons ha,List.drop_eq_getElem_cons hb]
  by_cases h : a[j] = b[j]
  ·refine ev_neg (fun q=>(meta_ne _ _).1 q h) ?_
   rw [show decide (a[j] :: a.drop (j + 1) = b[j] :: b.drop (j + 1)) = decide (a.drop (j + 1) = b.drop (j + 1)) from decide_eq_decide.2 ⟨fun q=>(List.cons.inj q).2,fun q=>by rw [h,q]⟩]
   exact ih (j + 1) (by omega)
  ·refine ev_pos ((meta_ne _ _).2 h) ?_
   rw [decide_eq_false (fun q=>h (List.cons.inj q).1)]
   exact ev_some _
theorem metas_f (a b : List MetaS) (hm : a.length < 9223372036854775800) : Ev (fun k=>api_Meta_43.f k a b) (decide (a = b)):=by
 unfold api_Meta_43.f
 by_cases hl : a.length = b.length
 ·refine ev_pos (by omega) ?_
  have:=metas_loop a b hl hm a.length 0 (by omega)
  rwa [List.drop_zero,List.drop_zero] at this
 ·refine ev_neg (by omega) ?_
  rw [decide_eq_false (fun e=>hl (by rw [e]))]
  exact ev_some _
/-- The same edit. -/
def sameE (l : List MetaS) (a b c : Int) (l' : List MetaS) (a' b' c' : Int) : Prop:=l = l' ∧ a = a' ∧ b = b' ∧ c = c'
instance decSameE (l : List MetaS) (a b c : Int) (l' : List MetaS) (a' b' c' : Int) : Decidable (sameE l a b c l' a' b' c'):=inferInstanceAs (Decidable (_ ∧ _ ∧ _ ∧ _))
theorem sameE_refl (l : List MetaS) (a b c : Int) : sameE l a b c l a b c:=⟨rfl,rfl,rfl,rfl⟩
theorem esameE_ev (l : List MetaS) (a b c : Int) (l' : List MetaS) (a' b' c' : Int) (hm : l.length < 9223372036854775800) : Ev (fun k=>edit_Same.f k l a b c l' a' b' c') (decide (sameE l a b c l' a' b' c')):=by
 unfold edit_Same.f
 refine ev_call (metas_f l l' hm) ?_
 by_cases h0 : l = l'
 ·refine ev_pos (decide_eq_true h0) ?_
  by_cases h1 : a = a'
  ·refine ev_pos h1 ?_
   by_cases h2 : b = b'
   ·refine ev_pos h2 ?_
    rw [show (c == c') = decide (sameE l a b c l' a' b' c') from by
     by_cases h3 : c = c'
     ·rw [decide_eq_true (show sameE l a b c l' a' b' c' from ⟨h0,h1,h2,h3⟩),beq_iff_eq.2 h3]
     ·rw [decide_eq_false (fun q : sameE l a b c l' a' b' c'=>h3 q.2.2.2),beq_eq_false_iff_ne.2 h3]]
    exact ev_some _
   ·refine ev_neg h2 ?_
    rw [decide_eq_false (fun q : sameE l a b c l' a' b' c'=>h2 q.2.2.1)]
    exact ev_some _
  ·refine ev_neg h1 ?_
   rw [decide_eq_false (fun q : sameE l a b c l' a' b' c'=>h1 q.2.1)]
   exact ev_some _
 ·refine ev_neg (by rw [decide_eq_false h0];decide) ?_
  rw [decide_eq_false (fun q : sameE l a b c l' a' b' c'=>h0 q.1)]
  exact ev_some _
theorem whole_f (l : List MetaS) (a b c : Int) (hl : l.length < 2932031007402) : edit_Whole.f l a b c = some (l,a,b,c):=by
 unfold edit_Whole.f
 exact bind1 (show api_Meta_38.f l = some l from if_pos hl) rfl
theorem apply_eq {l0 : List MetaS} {a b c : Int} {l1 : List MetaS} {d e f : Int} (hw : WfE l1 d e f) (hl : l0.length ≤ 1000000) : edit_Apply.f l0 a b c l1 d e f = some (if okB l0 a b c l1 d e f = true then (l0 ++ l1,mx a d,mx b e,mx c f,0) else (l0,a,b,c,90)):=by
 unfold edit_Apply.f
 rw [if_pos ⟨hw,by omega⟩]
end Go.Proofs.YtcagajobpnpicaaL

end

section
set_option linter.unusedVariables false
set_option linter.unusedSimpArgs false
namespace Go.Proofs.YtcagajobpnpicaaL
open Go Go.RowKit Go.Proofs.YtcagajobpnpicaaG Go.Proofs.Ytcagajobpnpicaa.P Go.Proofs.YtcagajobpnpicaaW.PrintWords Go.Proofs.YtcagajobpnpicaaW.PrintMore

theorem rsame_loop (a b : List MetaS) (p q s p' q' s' : Int) (hl : a.length = b.length) (hm : a.length < 9223372036854775800) :
  ∀ (m j : Nat),j + m = a.length → Ev (fun k=>ratlineref09_Same.l0 k (j : Int) a p q s b p' q' s') (decide (a.drop j = b.drop j)):=by
 intro m
 induction m with
 | zero =>
  intro j hj
  obtain rfl : j = a.length:=by omega
  refine ev_step (fun k=>by rw [ratlineref09_Same.l0,if_neg (Int.lt_irrefl _)]) ?_
  rw [List.drop_length,hl,List.drop_length]
  simpa using ev_some _
 | succ m ih =>
  intro j hj
  have ha : j < a.length:=by omega
  have hb : j < b.length:=by omega
  refine ev_step (fun k=>by rw [ratlineref09_Same.l0,if_pos (by omega),if_pos (by omega),if_pos (by omega),rd_meta a ha,rd_meta b hb,up1 (by omega)]) ?_
  rw [List.drop_eq_getElem_cons ha,List.drop_eq_getElem_cons hb]
  by_cases h : a[j] = b[j]
  ·refine ev_neg (fun q=>(meta_ne _ _).1 q h) ?_
   rw [show decide (a[j] :: a.drop (j + 1) = b[j] :: b.drop (j + 1)) = decide (a.drop (j + 1) = b.drop (j + 1)) from decide_eq_decide.2 ⟨fun q=>(List.cons.inj q).2,fun q=>by rw [h,q]⟩]
   exact ih (j + 1) (by omega)
  ·refine ev_pos ((meta_ne _ _).2 h) ?_
   rw [decide_eq_false (fun q=>h (List.cons.inj q).1)]
   exact ev_some _
theorem rsame_j0 (l : List MetaS) (a b c : Int) (l' : List MetaS) (a' b' c' : Int) : Ev (fun k=>ratlineref09_Same.j0 k true l a b c l' a' b' c') false:=ev_step (fun k=>by rw [ratlineref09_Same.j0]) (ev_pos rfl (ev_some _))
theorem rsame_ev (l : List MetaS) (a b c : Int) (l' : List MetaS) (a' b' c' : Int) (hm : l.length < 9223372036854775800) : Ev (fun k=>ratlineref09_Same.f k l a b c l' a' b' c') (decide (sameE l a b c l' a' b' c')):=by
 unfold ratlineref09_Same.f
 by_cases hl : l.length = l'.length
 ·refine ev_pos (by omega) ?_
  by_cases h1 : a = a'
  ·refine ev_pos h1 ?_
   by_cases h2 : b = b'
   ·refine ev_pos h2 ?_
    by_cases h3 : c = c'
    ·refine ev_step (f:=fun k=>ratlineref09_Same.l0 k 0 l a b c l' a' b' c') (fun k=>by rw [ratlineref09_Same.j0,if_neg (by rw [h3];simp)]) ?_
     have h:=rsame_loop l l' a b c a' b' c' hl hm l.length 0 (by omega)
     rw [List.drop_zero,List.drop_zero] at h
     rw [show decide (sameE l a b c l' a' b' c') = decide (l = l') from decide_eq_decide.2 ⟨fun q=>q.1,fun q=>⟨q,h1,h2,h3⟩⟩]
     exact h
    ·rw [decide_eq_false (fun q : sameE l a b c l' a' b' c'=>h3 q.2.2.2)]
     rw [show (c != c') = true from by simpa using h3]
     exact rsame_j0 ..
   ·refine ev_neg h2 ?_
    rw [decide_eq_false (fun q : sameE l a b c l' a' b' c'=>h2 q.2.2.1)]
    exact rsame_j0 ..
  ·refine ev_neg h1 ?_
   rw [decide_eq_false (fun q : sameE l a b c l' a' b' c'=>h1 q.2.1)]
   exact rsame_j0 ..
 ·refine ev_neg (by omega) ?_
  rw [decide_eq_false (fun q : sameE l a b c l' a' b' c'=>hl (by rw [q.1]))]
  exact rsame_j0 ..
theorem rwhole_f (l : List MetaS) (a b c : Int) (hl : l.length < 2932031007402) : ratlineref09_Whole.f l a b c = some (l,a,b,c):=by
 unfold ratlineref09_Whole.f
 rw [if_pos (by show 0 + l.length < _;omega)]
 rfl
theorem versions_ev (l : List MetaS) (a b c : Int) (l' : List MetaS) (a' b' c' : Int) (hl : l.length < 2932031007402) (hl' : l'.length < 2932031007402) : Ev (fun k=>ratlinelaw09_Versions.f k l a b c l' a' b' c') (decide (sameE l a b c l' a' b' c')):=by
 unfold ratlinelaw09_Versions.f
 refine ev_bind (rwhole_f l a b c hl) ?_
 refine ev_bind (rwhole_f l' a' b' c' hl') ?_
 refine ev_call (rsame_ev l a b c l' a' b' c' (by omega)) ?_
 exact ev_some _

end Go.Proofs.YtcagajobpnpicaaL

end

section
set_option linter.unusedVariables false
set_option linter.unusedSimpArgs false
namespace Go.Proofs.YtcagajobpnpicaaL
open Go Go.RowKit Go.Proofs.YtcagajobpnpicaaG Go.Proofs.Ytcagajobpnpicaa.P Go.Proofs.YtcagajobpnpicaaW.PrintWords Go.Proofs.YtcagajobpnpicaaW.PrintMore

theorem newer_cases {a x : Int} (ha : 0 ≤ a) (hx : 0 ≤ x) : (fallsB a x = false ∧ ratlineref09_newer.f a x = some (mx a x,true)) ∨ (fallsB a x = true ∧ ∃ y,ratlineref09_newer.f a x = some (y,false)):=by
 unfold ratlineref09_newer.f fallsB
 by_cases h0 : x = 0
 ·left
  rw [if_pos h0,decide_eq_false (show ¬ 0 < x by omega)]
  refine ⟨rfl,?_⟩
  have : mx a x = a:=by unfold mx;split <;> omega
  rw [this]
 ·rw [if_neg h0,decide_eq_true (show 0 < x by omega),Bool.true_and]
  by_cases h1 : x < a
  ·exact .inr ⟨decide_eq_true h1,x,by rw [decide_eq_false (show ¬ x ≥ a by omega)]⟩
  ·left
   refine ⟨decide_eq_false h1,?_⟩
   rw [decide_eq_true (show x ≥ a by omega)]
   have : mx a x = x:=by unfold mx;split <;> omega
   rw [this]
theorem rapply_j0 {l0 : List MetaS} {a b c : Int} {l1 : List MetaS} {d e f : Int} (ha : 0 ≤ a) (hb : 0 ≤ b) (hc : 0 ≤ c) (hd : 0 ≤ d) (he : 0 ≤ e) (hf : 0 ≤ f) (hl : l0.length + l1.length < 2932031007402) (x : Bool) :
  Ev (fun k=>ratlineref09_Apply.j0 k x l0 a b c l1 d e f l0 a b c) (if (!x && !fallsB a d && !fallsB b e && !fallsB c f) = true then (l0 ++ l1,mx a d,mx b e,mx c f,0) else (l0,a,b,c,90)):=by
 refine ev_step (fun k=>by rw [ratlineref09_Apply.j0]) ?_
 cases x with
 | true=>exact ev_pos rfl (ev_some _)
 | false =>
  refine ev_neg (by decide) ?_
  rcases newer_cases ha hd with ⟨h1,e1⟩|⟨h1,y1,e1⟩ <;> rcases newer_cases hb he with ⟨h2,e2⟩|⟨h2,y2,e2⟩ <;> rcases newer_cases hc hf with ⟨h3,e3⟩|⟨h3,y3,e3⟩ <;> refine ev_bind e1 (ev_bind e2 (ev_bind e3 ?_)) <;> rw [h1,h2,h3]
  ·exact ev_pos rfl (ev_pos rfl (ev_pos rfl (ev_pos hl (ev_some _))))
  ·exact ev_pos rfl (ev_pos rfl (ev_neg (by simp) (ev_some _)))
  ·exact ev_pos rfl (ev_neg (by simp) (ev_some _))
  ·exact ev_pos rfl (ev_neg (by simp) (ev_some _))
  ·exact ev_neg (by simp) (ev_some _)
  ·exact ev_neg (by simp) (ev_some _)
  ·exact ev_neg (by simp) (ev_some _)
  ·exact ev_neg (by simp) (ev_some _)
theorem rapply_ev {l0 : List MetaS} {a b c : Int} {l1 : List MetaS} {d e f : Int} (ha : 0 ≤ a) (hb : 0 ≤ b) (hc : 0 ≤ c) (hw : WfE l1 d e f) (hl0 : l0.length ≤ 1000000) (hl1 : l1.length ≤ 1000000) :
  Ev (fun k=>ratlineref09_Apply.f k l0 a b c l1 d e f) (if okB l0 a b c l1 d e f = true then (l0 ++ l1,mx a d,mx b e,mx c f,0) else (l0,a,b,c,90)):=by
 have hJ:=fun x=>rapply_j0 (l0:=l0) (l1:=l1) ha hb hc hw.2.1.1 hw.2.2.1.1 hw.2.2.2.1 (by omega) x
 unfold ratlineref09_Apply.f
 refine ev_pos (by show 0 + l0.length < _;omega) ?_
 refine ev_bind (show (some (([] : List MetaS) ++ l0)) = some l0 from rfl) ?_
 refine ev_call (rright_ev l1 d e f (by omega) hw) ?_
 cases hr : rightB l1 d e f with
 | false =>
  refine ev_neg (by decide) ?_
  have h1:=hJ true
  unfold okB
  rw [hr]
  exact h1
 | true =>
  refine ev_pos rfl ?_
  by_cases h0 : 0 < l0.length
  ·refine ev_pos (by omega) ?_
   by_cases h1 : 0 < l1.length
   ·refine ev_pos (by omega) (ev_pos (by omega) ?_)
    have hw1 : wrap64 ((l0.length : Int) - 1) = (l0.length : Int) - 1:=by unfold wrap64;omega
    rw [hw1]
    refine ev_pos (by omega) (ev_pos (by omega) ?_)
    have e1 : lowB l0 l1 = decide (((rd_T58 l1 0).f0) ≤ ((rd_T58 l0 ((l0.length : Int) - 1)).f0)):=by
     unfold lowB
     rw [decide_eq_true h0,decide_eq_true h1,Bool.true_and,Bool.true_and]
    have h2:=hJ (lowB l0 l1)
    unfold okB
    rw [hr,← e1]
    rw [show (true && !fallsB a d && !fallsB b e && !fallsB c f && !lowB l0 l1) = (!lowB l0 l1 && !fallsB a d && !fallsB b e && !fallsB c f) from by cases lowB l0 l1 <;> cases fallsB a d <;> cases fallsB b e <;> cases fallsB c f <;> rfl]
    exact h2
   ·refine ev_neg (by omega) ?_
    have h2:=hJ false
    unfold okB lowB
    rw [hr,decide_eq_false h1]
    simpa using h2
  ·refine ev_neg (by omega) ?_
   have h2:=hJ false
   unfold okB lowB
   rw [hr,decide_eq_false h0]
   simpa using h2
end Go.Proofs.YtcagajobpnpicaaL

end

section
set_option linter.unusedVariables false
set_option linter.unusedSimpArgs false
namespace Go.Proofs.Ytcagajobpnpicaa.Pure
open Go Go.RowKit Go.Proofs.Ytcagajobpnpicaa.P Go.Proofs.YtcagajobpnpicaaG Go.Proofs.YtcagajobpnpicaaL Go.Proofs.YtcagajobpnpicaaW.PrintWords Go.Proofs.YtcagajobpnpicaaW.PrintMore Go.Proofs.YtcagajobpnpicaaW.PrintLast

theorem awake_t : Ev (fun _ : Nat=>(ratlinelaw09_awake.f).bind fun t=>some t) true:=ev_some true
theorem same_self (l : List Int) : ratlinelaw02_Same.f l l = some true:=by
 unfold ratlinelaw02_Same.f
 simp
theorem same_dec (l : List MetaS) (a b c : Int) : decide (sameE l a b c l a b c) = true:=decide_eq_true (sameE_refl _ _ _ _)
theorem EditTells (e : EdS) (he : WfI e) (g : EdS) (hg : WfI g) (raw : List Int) (hl : raw.length ≤ maxLen) (hs : raw.length * 1 ≤ 140737488351232) (hr : ∀ x ∈ raw,(Lit.int .u8 x).wf = true) (v : S28) (hv : (v.f0.length ≤ maxLen ∧ ∀ m ∈ v.f0,(Lit.int .u64 m.f0).wf = true ∧ (Lit.int .u64 m.f1).wf = true ∧ m.f2.size ≤ maxLen ∧ m.f3.size ≤ maxLen) ∧ (Lit.int .u64 v.f1).wf = true ∧ (Lit.int .u64 v.f2).wf = true ∧ (Lit.int .u64 v.f3).wf = true) (hz : v.f0.length < 2932031007402) :
  ∃ k,ratlinelaw09_EditTells.f k e.f0 e.f1 e.f2 e.f3 g.f0 g.f1 g.f2 g.f3 raw v.f0 v.f1 v.f2 v.f3 = some true:=by
 refine Ev.rounds (g:=fun k=>ratlinelaw09_EditTells.f k e.f0 e.f1 e.f2 e.f3 g.f0 g.f1 g.f2 g.f3 raw v.f0 v.f1 v.f2 v.f3) ?_
 have hwe:=he.e
 have hwg:=hg.e
 have hby : By raw:=By.of_wf hr
 obtain ⟨⟨hv1,hv2⟩,hv3,hv4,hv5⟩:=hv
 have u3:=lit_u64 hv3
 have u4:=lit_u64 hv4
 have u5:=lit_u64 hv5
 unfold ratlinelaw09_EditTells.f
 refine ev_bind (rwhole_f v.f0 v.f1 v.f2 v.f3 hz) ?_
 refine ev_call (few_ev [⟨e.f0,e.f1,e.f2,e.f3⟩,⟨g.f0,g.f1,g.f2,g.f3⟩,⟨v.f0,v.f1,v.f2,v.f3⟩] (by simp) (fun x hx=>by
  simp only [List.mem_cons,List.not_mem_nil,or_false] at hx
  rcases hx with rfl|rfl|rfl
  ·exact he.len
  ·exact hg.len
  ·show v.f0.length ≤ _;omega)) ?_
 have hj : ∀ x : Bool,(x = false → e.f0.length ≤ 70 ∧ g.f0.length ≤ 70 ∧ v.f0.length ≤ 70 ∧ raw.length ≤ 600) → Ev (fun k=>ratlinelaw09_EditTells.j0 k raw x e.f0 e.f1 e.f2 e.f3 g.f0 g.f1 g.f2 g.f3 v.f0 v.f1 v.f2 v.f3) true:=by
  intro x hx
  refine ev_step (fun k=>by rw [ratlinelaw09_EditTells.j0]) ?_
  cases x with
  | true=>exact ev_pos rfl awake_t
  | false =>
   obtain ⟨l1,l2,l3,l4⟩:=hx rfl
   refine ev_neg (by decide) ?_
   obtain ⟨bx,eb,hB⟩ : ∃ bx eb,edit_Bytes.f e.f0 e.f1 e.f2 e.f3 = some (bx,eb):=⟨_,_,if_pos hwe⟩
   obtain ⟨pl,pa,pb,pc,pe,hP,hpl⟩ : ∃ pl pa pb pc pe,edit_Parse.f raw = some (pl,pa,pb,pc,pe) ∧ pl.length ≤ 64:=by
    rcases eparse_any raw hby (by unfold big;omega) with ⟨l,a,b,c,h1,h2,_,hf⟩|hf
    ·exact ⟨_,_,_,_,_,hf,(right_fit h1 h2).1⟩
    ·exact ⟨_,_,_,_,_,hf,by simp⟩
   obtain ⟨ul,ua,ub,uc,ue,hA,hA2,hul⟩ : ∃ ul ua ub uc ue,edit_Apply.f v.f0 v.f1 v.f2 v.f3 e.f0 e.f1 e.f2 e.f3 = some (ul,ua,ub,uc,ue) ∧ Ev (fun k=>ratlineref09_Apply.f k v.f0 v.f1 v.f2 v.f3 e.f0 e.f1 e.f2 e.f3) (ul,ua,ub,uc,ue) ∧ ul.length ≤ 140:=by
    have h1:=apply_eq (l0:=v.f0) (a:=v.f1) (b:=v.f2) (c:=v.f3) hwe (by omega)
    have h2:=rapply_ev (l0:=v.f0) u3.1 u4.1 u5.1 hwe (by omega) (by omega)
    by_cases h : okB v.f0 v.f1 v.f2 v.f3 e.f0 e.f1 e.f2 e.f3 = true
    ·rw [if_pos h] at h1 h2
     exact ⟨_,_,_,_,_,h1,h2,by rw [List.length_append];omega⟩
    ·rw [if_neg h] at h1 h2
     exact ⟨_,_,_,_,_,h1,h2,by omega⟩
   refine ev_bind hB ?_
   refine ev_bind (show ratlineref09_Bytes.f e.f0 e.f1 e.f2 e.f3 = some (bx,eb) from hB) ?_
   refine ev_bind hP ?_
   refine ev_bind (show ratlineref09_Parse.f raw = some (pl,pa,pb,pc,pe) from by unfold ratlineref09_Parse.f;rw [if_pos ⟨hby,by omega⟩];exact hP) ?_
   refine ev_bind hA ?_
   refine ev_call hA2 ?_
   refine ev_call (right_ev _ _ _ _ (by omega) hwe) ?_
   refine ev_call (rright_ev _ _ _ _ (by omega) hwe) ?_
   refine ev_neg (by simp) ?_
   refine ev_call (esameE_ev _ _ _ _ _ _ _ _ (by omega)) ?_
   refine ev_call (rsame_ev _ _ _ _ _ _ _ _ (by omega)) ?_
   refine ev_neg (by simp) ?_
   refine ev_bind (same_self bx) ?_
   refine ev_pos rfl (ev_pos rfl ?_)
   refine ev_call (rsame_ev _ _ _ _ _ _ _ _ (by show pl.length < _;omega)) ?_
   refine ev_pos (same_dec _ _ _ _) ?_
   refine ev_step (fun k=>by rw [ratlinelaw09_EditTells.j1]) ?_
   refine ev_neg (by simp) ?_
   refine ev_call (versions_ev _ _ _ _ _ _ _ _ (by show ul.length < _;omega) (by show ul.length < _;omega)) ?_
   refine ev_pos (same_dec _ _ _ _) (ev_pos rfl ?_)
   refine ev_bind (whole_f _ _ _ _ (by omega)) ?_
   refine ev_bind (rwhole_f _ _ _ _ (by omega)) ?_
   refine ev_call (rsame_ev _ _ _ _ _ _ _ _ (by show v.f0.length < _;omega)) ?_
   refine ev_pos (same_dec _ _ _ _) ?_
   exact awake_t
 by_cases hf : ([⟨e.f0,e.f1,e.f2,e.f3⟩,⟨g.f0,g.f1,g.f2,g.f3⟩,⟨v.f0,v.f1,v.f2,v.f3⟩] : List EdS).all fewE = true
 ·refine ev_pos hf ?_
  simp only [List.all_cons,List.all_nil,Bool.and_true,Bool.and_eq_true] at hf
  refine hj _ (fun hx=>⟨fewE_len hf.1,fewE_len hf.2.1,fewE_len hf.2.2,?_⟩)
  have:=of_decide_eq_false hx
  omega
 ·refine ev_neg hf ?_
  exact hj true (fun h=>by cases h)
end Go.Proofs.Ytcagajobpnpicaa.Pure

end

section
set_option linter.unusedVariables false
namespace Go.Proofs.YtcagajobpnpicaaG
open Go Go.RowKit Go.Proofs.YtcagajobpnpicaaW.PrintWords

/-- What is trodden of this type is of this kind, and is right. -/
def Opens {α : Type} (P : Program) (t : TypeId) (d : Kd α) (wf : α → Prop) : Prop :=
 ∀ (H : Type) (enc : TypeId × Value → H) (w : World) (base : Nat) (sp : Nat → Bool) (held : Bool) (fuel : Nat) (cs : List Value) (x : DataW H × List MemPlace),
  DataW.trod enc P w base sp held fuel t cs = some x → ∃ a,d.K w a cs ∧ wf a
section
variable {P : Program} {t e : TypeId}
theorem opens_int {k : IntKind} (ht : P.underlying t = some (.int k)) : Opens P t (Kd.int k) (fun n=>(Lit.int k n).wf = true):=by
 intro H enc w base sp held fuel cs x h
 obtain ⟨n,rfl,_,hw⟩:=DataW.trod_int ht h
 exact ⟨n,rfl,hw⟩
theorem opens_string (ht : P.underlying t = some .string) : Opens P t Kd.string (fun s=>s.size ≤ maxLen):=by
 intro H enc w base sp held fuel cs x h
 obtain ⟨n,rfl,_,hm⟩:=DataW.trod_string ht h
 exact ⟨n,rfl,hm⟩
theorem build {α : Type} {Q : Nat → α → Prop} : ∀ n : Nat,(∀ i,i < n → ∃ a,Q i a) → ∃ l : List α,l.length = n ∧ ∀ i a,l[i]? = some a → Q i a:=by
 intro n
 induction n with
 | zero=>intro _;exact ⟨[],rfl,fun i a h=>by simp at h⟩
 | succ n ih =>
  intro h
  obtain ⟨l,hl,hq⟩:=ih (fun i hi=>h i (by omega))
  obtain ⟨a,ha⟩:=h n (by omega)
  refine ⟨l ++ [a],by simp [hl],fun i b hb=>?_⟩
  by_cases hi : i < n
  ·rw [List.getElem?_append_left (by omega)] at hb
   exact hq i b hb
  ·rw [List.getElem?_append_right (by omega)] at hb
   by_cases hin : i = n
   ·subst hin
    rw [hl,Nat.sub_self] at hb
    simp at hb
    exact hb ▸ ha
   ·rw [List.getElem?_eq_none (by simp;omega)] at hb
    cases hb
theorem opens_row {α : Type} {d : Kd α} {wf : α → Prop} (hc : P.cellsOf e = d.sz) (ht : P.underlying t = some (.slice e)) (he : Opens P e d wf)
  {H : Type} {enc : TypeId × Value → H} {w : World} {base : Nat} {sp : Nat → Bool} {held : Bool} {fuel : Nat} {cs : List Value} {x : DataW H × List MemPlace} (h : DataW.trod enc P w base sp held fuel t cs = some x) :
  ∃ (A : Option Addr) (c : Nat) (xs : List α),cs = [.slice A xs.length c] ∧ xs.length ≤ c ∧ c ≤ maxLen ∧ d.C w A xs.length xs ∧ ∀ a ∈ xs,wf a:=by
 rcases DataW.trod_slice ht h with ⟨rfl,_⟩|⟨ad,len,cap,elems,rest,n,_,rfl,_,hb,hl,hm,hn,hel,_,_⟩
 ·exact ⟨none,0,[],rfl,Nat.le_refl _,by decide,Kd.C_nil d w,fun a ha=>by cases ha⟩
 ·obtain ⟨xs,hxl,hx⟩:=build (Q:=fun i a=>wf a ∧ ∃ c,c.length = d.sz ∧ d.K w a c ∧ ∀ j u,c[j]? = some u → w.cell? (ad.add (i * d.sz + j)) = some u) len (fun i hi=>by
   have h1:=hel i hi
   rw [List.getElem?_eq_getElem (by omega)] at h1
   obtain ⟨cs',hcs,htr⟩:=Option.bind_eq_some_iff.1 h1
   obtain ⟨a,ha,hw⟩:=he H enc w base sp held n cs' _ htr
   have hlen:=d.K_len ha
   obtain ⟨_,hlen2,hcell⟩:=World.cells?_some hcs
   refine ⟨a,hw,cs',hlen,ha,fun j u hj=>?_⟩
   have hjl : j < cs'.length:=by
    by_cases hjl : j < cs'.length
    ·exact hjl
    ·rw [List.getElem?_eq_none (by omega)] at hj;cases hj
   have h2:=hcell j (by omega)
   rw [hc] at h2
   have hadd : (ad.add (i * d.sz)).add j = ad.add (i * d.sz + j):=Addr.add_add ad _ _
   rw [← hadd,h2,hj])
  have hmax : maxLen ≤ 9223372036854775807:=by decide
  refine ⟨some ad,cap,xs,by rw [hxl],by omega,hm,⟨rfl,by omega,fun _=>⟨ad,rfl,fun j p hp=>(hx j p hp).2⟩⟩,fun a ha=>?_⟩
  obtain ⟨i,hi⟩:=List.mem_iff_getElem?.1 ha
  exact (hx i a hi).1
theorem opens_slice {α : Type} {d : Kd α} {wf : α → Prop} (hc : P.cellsOf e = d.sz) (ht : P.underlying t = some (.slice e)) (he : Opens P e d wf) :
  Opens P t (Kd.slice e d) (fun l=>l.length ≤ maxLen ∧ ∀ a ∈ l,wf a):=by
 intro H enc w base sp held fuel cs x h
 obtain ⟨A,c,xs,rfl,hl,hm,hC,hw⟩:=opens_row hc ht he h
 exact ⟨xs,⟨A,c,rfl,hl,hC⟩,by omega,hw⟩
theorem Opens.iso {α β : Type} {d : Kd α} {wf : α → Prop} (h : Opens P t d wf) (f : β → α) (g : α → β) (hfg : ∀ a,f (g a) = a) : Opens P t (Kd.iso d f) (fun b=>wf (f b)):=by
 intro H enc w base sp held fuel cs x htr
 obtain ⟨a,ha,hw⟩:=h H enc w base sp held fuel cs x htr
 exact ⟨g a,by show d.K w (f (g a)) cs;rw [hfg];exact ha,by show wf (f (g a));rw [hfg];exact hw⟩
end

/-- A field of a struct. -/
theorem opens_field {α : Type} {P : Program} {t e : TypeId} {fs : Array Field} {d : Kd α} {wf : α → Prop} {off i : Nat} {f : Field} (ht : P.underlying t = some (.struct fs)) (hi : fs[i]? = some f) (hft : f.type = e) (hfo : f.offset = off) (hc : P.cellsOf e = d.sz) (he : Opens P e d wf)
  {H : Type} {enc : TypeId × Value → H} {w : World} {base : Nat} {sp : Nat → Bool} {held : Bool} {fuel : Nat} {cs : List Value} {x : DataW H × List MemPlace} (h : DataW.trod enc P w base sp held fuel t cs = some x) :
  ∃ a,d.K w a ((cs.drop off).take d.sz) ∧ wf a:=by
 obtain ⟨xs,n,_,_,_,hn,hf⟩:=DataW.trod_struct ht h
 have h1:=hf i f hi
 have hil : i < xs.length:=by
  rw [hn]
  exact (Array.getElem?_eq_some_iff.1 hi).1
 rw [List.getElem?_eq_getElem hil,hft,hfo,hc] at h1
 exact he H enc w base sp held n _ _ h1
theorem opens_cells {P : Program} {t : TypeId} {fs : Array Field} (ht : P.underlying t = some (.struct fs)) {H : Type} {enc : TypeId × Value → H} {w : World} {base : Nat} {sp : Nat → Bool} {held : Bool} {fuel : Nat} {cs : List Value} {x : DataW H × List MemPlace} (h : DataW.trod enc P w base sp held fuel t cs = some x) :
  cs.length = P.cellsOf t:=by
 obtain ⟨xs,n,_,_,hl,_⟩:=DataW.trod_struct ht h
 exact hl
theorem opens_struct4 {α β γ δ : Type} {P : Program} {t ta tb tc td : TypeId} {fs : Array Field} {a : Kd α} {b : Kd β} {c : Kd γ} {d : Kd δ} {wa : α → Prop} {wb : β → Prop} {wc : γ → Prop} {wd : δ → Prop} (ht : P.underlying t = some (.struct fs)) (hc : P.cellsOf t = a.sz + (b.sz + (c.sz + d.sz)))
  (f0 : (fs[0]?).map (fun f=>(f.type,f.offset)) = some (ta,0)) (f1 : (fs[1]?).map (fun f=>(f.type,f.offset)) = some (tb,a.sz)) (f2 : (fs[2]?).map (fun f=>(f.type,f.offset)) = some (tc,a.sz + b.sz)) (f3 : (fs[3]?).map (fun f=>(f.type,f.offset)) = some (td,a.sz + b.sz + c.sz)) (ca : P.cellsOf ta = a.sz) (cb : P.cellsOf tb = b.sz) (cc : P.cellsOf tc = c.sz) (cd : P.cellsOf td = d.sz) (oa : Opens P ta a wa) (ob : Opens P tb b wb) (oc : Opens P tc c wc) (od : Opens P td d wd) :
  Opens P t (Kd.pair a (Kd.pair b (Kd.pair c d))) (fun x=>wa x.1 ∧ wb x.2.1 ∧ wc x.2.2.1 ∧ wd x.2.2.2):=by
 intro H enc w base sp held fuel cs x h
 obtain ⟨g0,e0,q0⟩:=Option.map_eq_some_iff.1 f0
 obtain ⟨g1,e1,q1⟩:=Option.map_eq_some_iff.1 f1
 obtain ⟨g2,e2,q2⟩:=Option.map_eq_some_iff.1 f2
 obtain ⟨g3,e3,q3⟩:=Option.map_eq_some_iff.1 f3
 simp only [Prod.mk.injEq] at q0 q1 q2 q3
 obtain ⟨x0,k0,w0⟩:=opens_field ht e0 q0.1 q0.2 ca oa h
 obtain ⟨x1,k1,w1⟩:=opens_field ht e1 q1.1 q1.2 cb ob h
 obtain ⟨x2,k2,w2⟩:=opens_field ht e2 q2.1 q2.2 cc oc h
 obtain ⟨x3,k3,w3⟩:=opens_field ht e3 q3.1 q3.2 cd od h
 have hl:=opens_cells ht h
 have hsp : (cs.drop (a.sz + b.sz + c.sz)).take d.sz = ((cs.drop a.sz).drop b.sz).drop c.sz:=by rw [List.take_of_length_le (by rw [List.length_drop];omega)];simp only [List.drop_drop,Nat.add_assoc]
 rw [List.drop_zero] at k0
 rw [hsp] at k3
 rw [← List.drop_drop] at k2
 exact ⟨(x0,x1,x2,x3),⟨cs.take a.sz,cs.drop a.sz,(List.take_append_drop _ _).symm,k0,_,_,(List.take_append_drop b.sz _).symm,k1,_,_,(List.take_append_drop c.sz _).symm,k2,k3⟩,w0,w1,w2,w3⟩
/-- A struct as an argument. -/
theorem opens_agg {P : Program} {t : TypeId} {fs : Array Field} {w : World} {r : Reach} {base : Nat} {v : Value} (ht : P.underlying t = some (.struct fs)) (h : Value.okWide P w r base t v) : ∃ cs,v = .agg cs:=by
 unfold Value.okWide at h
 rw [ht] at h
 obtain ⟨cs,hv,_⟩:=h
 exact ⟨cs,hv⟩
/-- A row's slice is no longer than its weight allows. -/
theorem sized_row {H : Type} {enc : TypeId × Value → H} {P : Program} {W : World} {base : Nat} {spare : Nat → Bool} {held : Bool} {t e : TypeId} {a : Option Addr} {len cap : Nat} {d : DataW H} {ps : List MemPlace} {ts : List TypeId} {ds : List (DataW H)} {j : Nat}
  (hsz : (DataW.weightsEach P ts ds).all (· ≤ reachBytes) = true) (ht : ts[j]? = some t) (hd : ds[j]? = some d) (hu : P.underlying t = some (.slice e)) (B : Nat) (hB : P.bytesOf e = B)
  (h : DataW.Trod enc P W base spare held t (.slice a len cap) d ps) : len * B ≤ 140737488351232:=by
 obtain ⟨fuel,hf⟩:=h
 rcases DataW.trod_slice hu hf with ⟨hcs,_⟩|⟨ad,l,c,elems,rest,n,_,hcs,hx,_,_,_,hn,_⟩
 ·simp only [Value.cells,List.cons.injEq,Value.slice.injEq,and_true] at hcs
  obtain ⟨rfl,rfl,rfl⟩:=hcs
  rw [Nat.zero_mul];omega
 ·simp only [Value.cells,List.cons.injEq,Value.slice.injEq,and_true] at hcs
  obtain ⟨rfl,rfl,rfl⟩:=hcs
  obtain ⟨hx,_⟩:=Prod.mk.inj hx
  subst hx
  have z:=sized_slice hsz ht hd hu
  rw [hB,List.length_map,List.length_map] at z
  exact Nat.le_trans (Nat.mul_le_mul_right _ (by omega)) z
end Go.Proofs.YtcagajobpnpicaaG

end

section
set_option linter.unusedVariables false
namespace Go.Proofs.YtcagajobpnpicaaG
open Go Go.ChangeShapes Go.WideShapes Go.RowKit
theorem sized_field {H : Type} {enc : TypeId × Value → H} {P : Program} {W : World} {base : Nat} {spare : Nat → Bool} {held : Bool} {t e : TypeId} {fs : Array Field} {f : Field} {a : Option Addr} {len cap fuel : Nat} {cs : List Value} {x : DataW H × List MemPlace} {ts : List TypeId} {ds : List (DataW H)} {j : Nat}
  (hsz : (DataW.weightsEach P ts ds).all (· ≤ reachBytes) = true) (ht : ts[j]? = some t) (hd : ds[j]? = some x.1) (hu : P.underlying t = some (.struct fs)) (hf : fs[0]? = some f) (hfo : f.offset = 0) (hfc : P.cellsOf f.type = 1) (hue : P.underlying f.type = some (.slice e)) (B : Nat) (hB : P.bytesOf e = B)
  (h : DataW.trod enc P W base spare held fuel t (.slice a len cap :: cs) = some x) : len * B ≤ 140737488351232:=by
 obtain ⟨xs,n,_,hx,_,hlen,hfs⟩:=DataW.trod_struct hu h
 have h1:=hfs 0 f hf
 rw [hfo,hfc] at h1
 have h0 : 0 < xs.length:=by rw [hlen];exact (Array.getElem?_eq_some_iff.1 hf).1
 rw [List.getElem?_eq_getElem h0] at h1
 have h1 : DataW.trod enc P W base spare held n f.type [.slice a len cap] = some xs[0]:=h1
 rcases DataW.trod_slice hue h1 with ⟨hcs,_⟩|⟨ad,l,c,elems,rest,m,_,hcs,hy,_,_,_,hn,_⟩
 ·simp only [List.cons.injEq,Value.slice.injEq,and_true] at hcs
  obtain ⟨rfl,rfl,rfl⟩:=hcs
  rw [Nat.zero_mul];omega
 ·simp only [List.cons.injEq,Value.slice.injEq,and_true] at hcs
  obtain ⟨rfl,rfl,rfl⟩:=hcs
  have hw : ((elems.map (·.1)).length + (rest.map (·.1)).length) * P.bytesOf e ∈ DataW.weightsEach P ts ds:=by
   refine DataW.weights_mem_each ht hd _ ?_
   rw [hx]
   simp only [DataW.weights,hu]
   refine DataW.weights_mem_each (j:=0) (t:=f.type) (d:=(xs[0]).1) ?_ ?_ _ ?_
   ·rw [List.getElem?_map,Array.getElem?_toList,hf];rfl
   ·rw [List.getElem?_map,List.getElem?_eq_getElem h0];rfl
   ·rw [hy]
    simp [DataW.weights,hue]
  have z:=List.all_eq_true.1 hsz _ hw
  simp only [decide_eq_true_eq] at z
  rw [hB,List.length_map,List.length_map] at z
  exact Nat.le_trans (Nat.mul_le_mul_right _ (by omega)) z
end Go.Proofs.YtcagajobpnpicaaG

end
