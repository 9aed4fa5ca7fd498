/- The card of the law 'TopAgree': for every input the call returns true; each argument reads as it did. Condition: the three tables of numbers that the library reads hold what the program's text lays in them, which the card ties. -/
import Derived.Test.YtnpphdaakookcaaDoorCards
import Derived.SevenTiedAt
import Derived.ChangeOld
import Derived.Below
import Derived.Test.YtnpphdaakookcaaDoorQ40
set_option linter.unusedVariables false
set_option linter.unusedSimpArgs false
set_option maxHeartbeats 4000000
set_option maxRecDepth 100000
namespace Go.Proofs.YtnpphdaakookcaaDoor
open Go.RowKit
theorem lawTopAgree_c (v:Value) (l:List Scu.Raw) (w:World) (h:IsRaws w w.heap.size v l) (ht:Tab w) :
 Calls Tryd.prog 4 #[v] w fun e w'=>e=.returned (.bool true)∧Below w.heap.size w w':=by
 obtain ⟨Al,cl,rfl,Hz⟩:=h.form'
 obtain ⟨la,Hp⟩:∃ la,Scu.rawActs l 280 3=la:=⟨_,rfl⟩
 obtain ⟨o,ho⟩:∃ o,Scu.outOf (Scu.steps (Scu.netNew 3) la)=o:=⟨_,rfl⟩
 have K:=Lib.hid (zRt (.slice Al l.length cl) l 280 w w.heap.size (Nat.le_refl _) h ht (by decide) la Hp o ho)
 have Hq:=Lib.hid (Scu.came_agree ho)
 have Hr:=Lib.hid (Scu.came_bound ho)
 clear h ht Hp ho
 go_enter Tryd.func4,Tryd.ntmps4
 go_wp2_with fail
 refine K.out.mono ?_;rintro e w1 ⟨⟨A,c,A0,c0,A1,c1,A2,c2,A3,c3,A4,c4,A5,c5,rfl,Hc,Hd⟩,h1⟩
 go_upto_region 2 with fail
 have hR:=RanB.made h1 Hc
 obtain ⟨Wd,Hh⟩:∃ W,W=w1.alloc (Obj.cells #[.slice A0 o.replicas.length c0,.slice A1 o.slots.length c1,.slice A2 o.flying.length c2,.slice A3 o.clients.length c3,.slice A4 o.told.length c4,.slice A5 o.codes.length c5] 32):=⟨_,rfl⟩
 obtain ⟨g,hg⟩:∃ g,w1.heap.size=g:=⟨_,rfl⟩
 rw [← Hh,hg] at hR
 rw [← Hh,hg]
 obtain ⟨b0,b1,b2,b3,b4,b5⟩:=cz6 hR.box
 have HR:=Lib.hid hR
 clear hR Hh hg h1 Hc Hd K
 go_wp2_with fail
 refine (zBo _ _ _ _ _ _ o.replicas Wd HR.out.out.reps Hr.out rfl rfl rfl rfl rfl).mono ?_;rintro e w2 ⟨⟨A6,c6,rfl,Ha⟩,h2⟩
 obtain ⟨all,Hb⟩:∃ all,Scu.committed o.replicas=all:=⟨_,rfl⟩
 rw [Hb] at Ha Hq
 rw [Hb]
 have Ka:all.length≤c6:=by obtain ⟨⟨A',c',e,h',_⟩,_⟩:=Ha;cases e;exact h'
 have He:=Lib.hid (HR.out.below h2)
 have Hi:=Lib.hid Ha
 have d0:=cz1 He.out.box
 have Hj:=He.out.out.reps.len
 unfold R47 at Hj
 clear b0 b1 b2 b3 b4 b5 HR h2 Ha Hb
 go_wp2_with fail
 go_loopw [20] (fun i wr=>∃ k:Nat,k≤o.replicas.length∧i=.int .i64 k∧Hid (Below w2.heap.size w2 wr)) (fun i _=>o.replicas.length - (intOf i).toNat)
 case atStart=>exact ⟨0,Nat.zero_le _,rfl,Lib.hid (Below.refl _ _)⟩
 case round =>
  obtain ⟨k,hk,rfl,HK⟩:=hrel
  by_cases Hk:k < o.replicas.length
  ·have Hl:(k:Int) < (o.replicas.length:Int):=by omega
   have Hs:=Hr.out o.replicas[k] (List.getElem_mem Hk)
   have Hf:=Hq.out o.replicas[k] (List.getElem_mem Hk)
   obtain ⟨rk,Hm⟩:∃ rk,o.replicas[k]=rk:=⟨_,rfl⟩
   obtain ⟨gr,or_,F0,q0,F1,q1,F2,q2,F3,q3,F4,q4,rfl,Kb,Ht,p0,p1,p2,p3,p4,p5,p6,p7,p8,p9⟩:=zJv (zEo He.out.out.reps HK.out) Hk Hm
   rw [Hm] at Hs Hf
   obtain ⟨q,hq⟩:∃ q:Nat,rk.kept.commit=q:=⟨rk.kept.commit.toNat,by omega⟩
   rw [hq] at p5 Hf
   have Hw:q≤rk.kept.log.length:=by omega
   have Hx:q≤all.length:=by have:=Hf.1;omega
   have Hb:=zAa wr (Obj.cells #[.int .i64 rk.me,.int .i64 rk.kept.view,.int .i64 rk.kept.normal,.bool rk.kept.calm,.slice F0 rk.kept.log.length q0,.int .i64 q,.slice F1 rk.have_.length q1,.slice F2 rk.wants.length q2,.slice F3 rk.gives.length q3,.slice F4 rk.given.length q4] 49)
   have HB:=Lib.hid (HK.out.trans (Hb.mono HK.out.size))
   have Hn:=Blk.new wr 49 #[.int .i64 rk.me,.int .i64 rk.kept.view,.int .i64 rk.kept.normal,.bool rk.kept.calm,.slice F0 rk.kept.log.length q0,.int .i64 q,.slice F1 rk.have_.length q1,.slice F2 rk.wants.length q2,.slice F3 rk.gives.length q3,.slice F4 rk.given.length q4]
   have Hu:=Lib.hid ((Ht.log.below Hb).take Hw)
   have Hv:=Lib.hid (((Hi.out.below HK.out).below Hb).take Hx)
   have Hy:=Lib.hid (show rk.kept.log.take q=all.take q by have:=Hf.2;rwa [Int.toNat_natCast] at this)
   have Kc:q≤q0:=by omega
   have Kd:q≤c6:=by omega
   clear Ht Hs Hf Hm hq
   go_upto_region 6 with fail
   obtain ⟨Wq,Hg⟩:∃ W,W=wr.alloc (Obj.cells #[.int .i64 rk.me,.int .i64 rk.kept.view,.int .i64 rk.kept.normal,.bool rk.kept.calm,.slice F0 rk.kept.log.length q0,.int .i64 q,.slice F1 rk.have_.length q1,.slice F2 rk.wants.length q2,.slice F3 rk.gives.length q3,.slice F4 rk.given.length q4] 49):=⟨_,rfl⟩
   obtain ⟨gq,Ho⟩:∃ g,wr.heap.size=g:=⟨_,rfl⟩
   rw [← Hg,Ho] at Hn
   rw [← Hg] at HB Hu Hv
   rw [← Hg,Ho]
   obtain ⟨-,-,-,-,x4,x5⟩:=cz6 Hn
   clear Hg Ho Hn Hb p0 p1 p2 p3 p4 p5 p6 p7 p8 p9
   go_wp2_with fail
   go_quiet ((go_at_call 21;exact zCl (zRs _ _ _ _ _ 0 0 (Hu.out.drewN _) (Hv.out.drewN _) Hy.out)))
   go_wp2
   go_roundw
   case rel=>first | exact ⟨k+1,by omega,rfl,Lib.hid (below_drewN HB.out _)⟩ | ((repeat apply Exists.intro);exact ⟨⟨k+1,by omega,rfl,Lib.hid (below_drewN HB.out _)⟩,rfl⟩)
   case measure=>first | (simp only [intOf];omega) | (simp [intOf];omega)
  have Hl:¬ (k:Int) < (o.replicas.length:Int):=by omega
  have HF:=Lib.hid (He.out.low.trans (HK.out.mono He.out.low.size))
  go_wp2
  go_ret
  exact ⟨rfl,HF.out⟩
theorem lawTopAgree_w (v:Value) (l:List Scu.Raw) {w:World} (h:IsRaws w w.heap.size v l) (W:World) (hW:W=w) (ht:Tab W) :
 Calls Tryd.prog 4 #[v] W fun e w'=>e=.returned (.bool true)∧Below W.heap.size W w':=by
 subst hW
 exact lawTopAgree_c v l W h ht
end Go.Proofs.YtnpphdaakookcaaDoor
namespace Go.Proofs.YtnpphdaakookcaaDoor.topAgreeDone
open Go.ChangeShapes Go.WideShapes Go.ChangeAt Go.RowKit
open Go.ChangeMaps (open_string shut_string)
theorem own : ownKnob Tryd.prog.godebug = none := by kernel_rfl
theorem laidOut : laidOutB Tryd.prog = true := by kernel_rfl
set_option maxRecDepth 100000 in
theorem lifted (os : Os) (started : os.Started) (H : Type) (enc : TypeId × Value → H) :
    ReturnsInHanded {} Tryd.checked os 4 .any (fun w args => (Rows.topAgreeSpec.pre enc Tryd.prog Tryd.f4 [] false w args ∧ laidMetH Tryd.prog Rows.topAgreeRow.laid w) ∧ sizedMet enc Tryd.prog Tryd.f4 (OpenSpec.ofChange Rows.topAgreeSpec) false w args)
      (Rows.topAgreeSpec.post enc Tryd.prog Tryd.f4 false true false false) := by
  refine returnsInHanded_of_change_and (C := Tryd.checked) (X := fun w _ => laidMetH Tryd.prog Rows.topAgreeRow.laid w) (fun _ _ _ hh h => h.of_heap hh) own started (by kernel_rfl) Tryd.func4
    (ChangeSpec.witness_shaped (enc := enc) (C := Tryd.checked) (os := os) (X := fun w _ => laidMetH Tryd.prog Rows.topAgreeRow.laid w) false (World.doorLaid Tryd.prog doorFuel os) #[.slice none 0 0] 8 rfl (zCs os _) (by kernel_rfl) (by kernel_rfl) (by kernel_rfl) (zFu os _)) ?_
  intro W base args ds gs before hval0 hW _ hsz hL _
  have htab := zKz hL
  have hwt0 : ∀ (j : Nat) (t : TypeId) (d : DataW H), (Tryd.f4.params.toList ++ Rows.topAgreeSpec.plain.varTypes Tryd.prog)[j]? = some t → (ds ++ gs)[j]? = some d → ∀ k ∈ d.weights Tryd.prog t, k ≤ reachBytes := fun j t d ht hd k hk => by
    have := List.all_eq_true.1 hsz k (DataW.weights_mem_each ht hd k hk)
    simpa using this
  clear hsz hL
  have hwt := hwt0
  rw [Tryd.params4] at hwt
  have hval : ∀ (j : Nat) t v, Tryd.f4.params[j]? = some t → args[j]? = some v → Value.okWide Tryd.prog W .any base t v := hval0
  have hW' := hW
  obtain ⟨p, q, hA0, hV, rfl, hfz, hnd⟩ := hW
  have hA : DataW.TrodAll enc Tryd.prog W 0 (fun _ => true) true Tryd.f4.params.toList args.toList ds p := hA0
  rw [Tryd.params4] at hA hval
  obtain ⟨v0, vs0, d0, ds0, p0, q0, hargs, rfl, rfl, h0, r0⟩ := trodAll_cons hA
  obtain ⟨rfl, rfl, rfl⟩ := trodAll_nil r0
  obtain rfl : args = #[v0] := by cases args; simp_all
  obtain ⟨rfl, rfl⟩ := trodVars_none hV
  have k0 := h0
  have lt0 : ∀ x ∈ p0, x.block < W.heap.size := by obtain ⟨m, hm⟩ := k0; exact DataW.trod_lt m _ _ _ hm
  obtain ⟨a0, w0⟩ := zDh (hval 0 22 v0 rfl rfl) h0 (hwt 0 22 d0 rfl rfl)
  clear hA0 hval0
  refine (lawTopAgree_w v0 a0 w0 W rfl htab).mono fun e W' ⟨he, bel⟩ => ?_
  subst he
  exact ⟨_, rfl, _, _, _, [], _, [], hW', trodAll_mk1 (shut_bool Tryd.underlying4 _), (trodAll_cons_mk (Below.trod laidOut (by kernel_rfl) (of_decide_eq_true (by kernel_rfl)) k0 bel lt0) trodAll_mk0), rfl, bel.frame _, fun h => by cases h⟩
theorem over : Rows.TopAgreeSaid :=
  OpenClaim.holds_of_wide 4 Tryd.f4 rfl rfl rfl rfl rfl rfl rfl ⟨rfl, rfl, rfl, rfl, rfl⟩ rfl rfl rfl rfl rfl (by kernel_rfl) Tryd.func4 (zFt rfl rfl rfl rfl rfl rfl (by as_aux_lemma => kernel_rfl) (by as_aux_lemma => kernel_rfl) (by as_aux_lemma => kernel_rfl) (by as_aux_lemma => kernel_rfl) (by as_aux_lemma => kernel_rfl) (by as_aux_lemma => kernel_rfl) (by as_aux_lemma => kernel_rfl))
    (of_decide_eq_true (by kernel_rfl)) (by unfold Func.isWrapper; first | (rw [if_pos (by decide +kernel)]; kernel_rfl) | (rw [if_neg (by decide +kernel)]; exact ⟨rfl, rfl⟩))
    (fun os started H enc _ => lifted os started H enc)
theorem proved : Rows.TopAgreeCardSaid :=
  Claim7.holds_tied_plain_at .later [] [.data, .data, .data] true Rows.topAgreeCard.stood.harness false
    over (fun _ h => by cases h) (by kernel_rfl) (fun _ h => by cases h) topAgree_row_tie rfl ⟨rfl, rfl⟩ (by kernel_rfl) rfl
    (fun f fn hf hfn => by
      obtain rfl : f = 4 := Option.some.inj ((show Tryd.prog.funcNamed Rows.topAgreeRow.func = some 4 by kernel_rfl).symm.trans hf) |>.symm
      obtain rfl : fn = Tryd.f4 := (Option.some.inj (Tryd.func4.symm.trans hfn)).symm
      exact ⟨by kernel_rfl, fun j t ht => by
        rw [Tryd.params4] at ht
        have hm : t ∈ [22] := by simpa using Array.mem_of_getElem? ht
        have hall : ([22].all fun u => !Tryd.prog.wantsStandIn u) = true := by kernel_rfl
        exact (show Tryd.prog.wantsStandIn t = false by simpa using List.all_eq_true.1 hall t hm)⟩)
    (by kernel_rfl)
end Go.Proofs.YtnpphdaakookcaaDoor.topAgreeDone
