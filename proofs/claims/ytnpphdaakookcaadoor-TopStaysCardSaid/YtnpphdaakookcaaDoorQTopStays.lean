/- The card of the law 'TopStays': for every input the call returns true; each argument reads as it did. Condition: the three tables of numbers that the library reads hold what the program's text lays in them, which the card ties. -/
import Derived.Test.YtnpphdaakookcaaDoorCards
import Derived.SevenTiedAt
import Derived.ChangeOld
import Derived.Below
import Derived.Test.YtnpphdaakookcaaDoorQ40
set_option linter.unusedVariables false
set_option linter.unusedSimpArgs false
set_option maxHeartbeats 4000000
set_option maxRecDepth 100000
namespace Go.Proofs.YtnpphdaakookcaaDoor
open Go.RowKit
theorem zQh (A:Option Addr) (n c:Nat) (l:List Scu.Act) (w:World) (hn:l.length=n) (hl:l.length≤300) (hx:IsActs w (.slice A n c) l) (o:Scu.Outcome) (ho:Scu.outOf (Scu.steps (Scu.netNew 3) l)=o) :
 Calls Tryd.prog 12 #[.int .i64 3,.slice A n c] w fun e w'=>(∃ A0 c0 A1 c1 A2 c2 A3 c3 A4 c4 A5 c5,e=.returned (.tuple #[.agg #[.slice A0 o.replicas.length c0,.slice A1 o.slots.length c1,.slice A2 o.flying.length c2,.slice A3 o.clients.length c3,.slice A4 o.told.length c4,.slice A5 o.codes.length c5],.int .i64 0])∧OutW w' (.slice A0 o.replicas.length c0) (.slice A1 o.slots.length c1) (.slice A2 o.flying.length c2) (.slice A3 o.clients.length c3) (.slice A4 o.told.length c4) (.slice A5 o.codes.length c5) o)∧Below w.heap.size w w':=by
 subst hn
 exact zQf A c l w hl hx o ho
theorem zTw (n m k:Int) (w:World) (K:Calls Tryd.prog 14 #[.int .i64 n,.int .i64 m] w fun e w'=>e=.returned (.int .i64 k)∧w=w') :
 Calls Tryd.prog 22 #[.int .i64 n,.int .i64 m] w fun e w'=>e=.returned (.int .i64 k)∧w=w':=by
 have HK:=Lib.hid K
 clear K
 go_enter Tryd.func22,Tryd.ntmps22
 go_wp2_with fail
 refine HK.out.mono ?_;rintro e w' ⟨rfl,rfl⟩
 go_wp2
 go_ret
 exact ⟨rfl,rfl⟩
theorem lawTopStays_c (v:Value) (l:List Scu.Raw) (n:Int) (hn:InI n) (w:World) (h:IsRaws w w.heap.size v l) (ht:Tab w) :
 Calls Tryd.prog 5 #[v,.int .i64 n] w fun e w'=>e=.returned (.bool true)∧Below w.heap.size w w':=by
 obtain ⟨Al,cl,rfl,Kj⟩:=h.form'
 have Hj:=zJu l 280
 have KA:=Lib.hid (zTr (.slice Al l.length cl) l 280 w w.heap.size (Nat.le_refl _) h ht (by decide))
 obtain ⟨la,Ho⟩:∃ la,Scu.rawActs l 280 3=la:=⟨_,rfl⟩
 rw [Ho] at Hj KA
 have hp:=Scu.picked_lt (n:=n) (many:=(la.length:Int)+1) (by omega)
 have KP:=Lib.hid (fun W=>zAt n ((la.length:Int)+1) hn (by omega) (by omega) W)
 obtain ⟨k,hk⟩:∃ k:Nat,Scu.picked n ((la.length:Int)+1)=k:=⟨(Scu.picked n ((la.length:Int)+1)).toNat,by omega⟩
 rw [hk] at hp KP
 have Hx:k≤la.length:=by omega
 obtain ⟨o,ho⟩:∃ o,Scu.outOf (Scu.steps (Scu.netNew 3) (la.take k))=o:=⟨_,rfl⟩
 obtain ⟨p,He⟩:∃ p,Scu.outOf (Scu.steps (Scu.netNew 3) la)=p:=⟨_,rfl⟩
 have Hf:=Scu.stays la k
 have Hp:p.codes.length=la.length:=by rw [← He];exact Scu.steps_codes _ _
 have Hq:o.codes.length=k:=by rw [← ho];show (Scu.steps (Scu.netNew 3) (la.take k)).2.length=k;rw [Scu.steps_codes,List.length_take];omega
 have Hr:(la.take k).length=k:=by rw [List.length_take];omega
 rw [ho,He] at Hf
 have Hy:=Lib.hid (Scu.came_bound ho)
 have Hz:=Lib.hid (Scu.came_bound He)
 have HO:=Lib.hid ho
 have Ka:=Lib.hid He
 have Hs:=Lib.hid Hr
 have Hg:=Lib.hid Hf.1
 have Kb:=Lib.hid (show o.codes=p.codes.take k by rw [Hf.2,← Hq,List.take_length])
 have Hk:=Lib.hid Hp
 clear h ht Ho ho He hp hk Hf Hp Hq Hr hn
 have Ht:(la.length:Int)≤280:=by omega
 have Kk:IntKind.i64.wrap ((la.length:Int)+1)=(la.length:Int)+1:=IntWalk.i64_in _ (by omega)
 go_enter Tryd.func5,Tryd.ntmps5
 go_wp2_with fail
 refine KA.out.mono ?_;rintro e w1 ⟨⟨A,c,css,rfl,Hc⟩,h1⟩
 have Kl:la.length≤c:=by obtain ⟨⟨A',c',css',e,h',_⟩,_⟩:=Hc.is;cases e;exact h'
 have HX:=Lib.hid Hc.is
 have Hl:=Lib.hid h1
 have Km:k≤c:=by omega
 clear Hc h1 KA
 go_wp2_with fail
 refine (zTw n ((la.length:Int)+1) k w1 (KP.out _)).mono ?_;rintro e w' ⟨rfl,rfl⟩
 clear KP
 go_wp2_with fail
 refine (zQh A k c (la.take k) w1 Hs.out (by rw [Hs.out];omega) (HX.out.take Hx) o HO.out).mono ?_;rintro e w2 ⟨⟨A0,c0,A1,c1,A2,c2,A3,c3,A4,c4,A5,c5,rfl,Hb⟩,h2⟩
 go_upto_region 4 with fail
 have hR:=RanB.made (Hl.out.trans (h2.mono Hl.out.size)) Hb
 have Hm:IsActs (w2.alloc (Obj.cells #[.slice A0 o.replicas.length c0,.slice A1 o.slots.length c1,.slice A2 o.flying.length c2,.slice A3 o.clients.length c3,.slice A4 o.told.length c4,.slice A5 o.codes.length c5] 32)) (.slice A la.length c) la:=IsActs.below (IsActs.below HX.out h2) (zAa w2 _)
 obtain ⟨Wd,Hh⟩:∃ W,W=w2.alloc (Obj.cells #[.slice A0 o.replicas.length c0,.slice A1 o.slots.length c1,.slice A2 o.flying.length c2,.slice A3 o.clients.length c3,.slice A4 o.told.length c4,.slice A5 o.codes.length c5] 32):=⟨_,rfl⟩
 obtain ⟨g,hg⟩:∃ g,w2.heap.size=g:=⟨_,rfl⟩
 rw [← Hh,hg] at hR
 rw [← Hh] at Hm
 rw [← Hh,hg]
 have HR:=Lib.hid hR
 have Hu:=Lib.hid Hm
 clear hR Hm Hh hg h2 Hb HX Hl
 go_wp2_with fail
 refine (zQh A la.length c la Wd rfl (by omega) Hu.out p Ka.out).mono ?_;rintro e w3 ⟨⟨D0,d0,D1,d1,D2,d2,D3,d3,D4,d4,D5,d5,rfl,Hb⟩,h3⟩
 go_upto_region 5 with fail
 have hR:=RanB.made h3 Hb
 have Ha:=HR.out.below (h3.trans ((zAa w3 (Obj.cells #[.slice D0 p.replicas.length d0,.slice D1 p.slots.length d1,.slice D2 p.flying.length d2,.slice D3 p.clients.length d3,.slice D4 p.told.length d4,.slice D5 p.codes.length d5] 32)).mono h3.size))
 obtain ⟨We,Hi⟩:∃ W,W=w3.alloc (Obj.cells #[.slice D0 p.replicas.length d0,.slice D1 p.slots.length d1,.slice D2 p.flying.length d2,.slice D3 p.clients.length d3,.slice D4 p.told.length d4,.slice D5 p.codes.length d5] 32):=⟨_,rfl⟩
 obtain ⟨g3,Hn⟩:∃ g,w3.heap.size=g:=⟨_,rfl⟩
 rw [← Hi,Hn] at hR
 rw [← Hi] at Ha
 rw [← Hi,Hn]
 clear Hi Hn h3 Hb HR Hu
 obtain ⟨u0,u1,u2,u3,u4,u5⟩:=cz6 hR.box
 obtain ⟨s0,s1,s2,s3,s4,s5⟩:=cz6 Ha.box
 have Kn:p.codes.length≤d5:=by obtain ⟨⟨A',c',e,h',_⟩,_⟩:=hR.out.codes;cases e;exact h'
 have Ko:k≤d5:=by have:=Hk.out;omega
 have qpl:(p.codes.length:Int)=la.length:=by have:=Hk.out;omega
 have qne:((p.codes.length:Int) != (la.length:Int))=false:=by rw [qpl];simp
 have HR:=Lib.hid hR
 have Hd:=Lib.hid Ha
 clear hR Ha
 go_wp2_with fail
 refine (zBo _ _ _ _ _ _ o.replicas We Hd.out.out.reps Hy.out rfl rfl rfl rfl rfl).mono ?_;rintro e w6 ⟨⟨A6,c6,rfl,ha⟩,h6⟩
 obtain ⟨ea,Hv⟩:∃ ea,Scu.committed o.replicas=ea:=⟨_,rfl⟩
 rw [Hv] at ha Hg ⊢
 have hR:=HR.out.below h6
 have Ha:=Hd.out.below h6
 clear s0 s1 s2 s3 s4 s5 u0 u1 u2 u3 u4 u5 Hv
 obtain ⟨u0,u1,u2,u3,u4,u5⟩:=cz6 hR.box
 clear h6 HR Hd
 have HR:=Lib.hid hR
 have Hd:=Lib.hid Ha
 have HA:=Lib.hid ha
 clear hR Ha ha
 go_wp2_with fail
 refine (zBo _ _ _ _ _ _ p.replicas w6 HR.out.out.reps Hz.out rfl rfl rfl rfl rfl).mono ?_;rintro e w7 ⟨⟨A7,c7,rfl,hb⟩,h7⟩
 obtain ⟨eb,Hw⟩:∃ eb,Scu.committed p.replicas=eb:=⟨_,rfl⟩
 rw [Hw] at hb Hg ⊢
 have hR:=HR.out.below h7
 have Ha:=Hd.out.below h7
 have ha:=HA.out.below h7
 clear u0 u1 u2 u3 u4 u5 Hw h7 HR Hd HA
 obtain ⟨-,-,-,-,-,u5⟩:=cz6 hR.box
 obtain ⟨-,-,-,-,-,s5⟩:=cz6 Ha.box
 have Kp:eb.length≤c7:=by obtain ⟨⟨A',c',e,h',_⟩,_⟩:=hb;cases e;exact h'
 have Kc:ea.length≤eb.length:=Hg.out.length_le
 have Kd:decide ((ea.length:Int)≤(eb.length:Int))=true:=by rw [decide_eq_true_eq];omega
 have Ke:ea.length≤c7:=by omega
 have HA:=Lib.hid ha
 have Kf:=Lib.hid (hb.take Kc)
 have Kg:=Lib.hid (show ea=eb.take ea.length by obtain ⟨t,ht⟩:=Hg.out;rw [← ht,List.take_left])
 have Kh:=Lib.hid Ha.out.codes
 have Ki:=Lib.hid (hR.out.codes.take (k:=k) (by have:=Hk.out;omega))
 have HF:=Lib.hid Ha.low
 clear ha hb hR Ha
 go_upto_region 9 with fail
 go_quiet (first
  | (go_at_call 21;exact zCl (zRs _ _ _ _ _ 0 0 (HA.out.drewN _) (Kf.out.drewN _) Kg.out))
  | (go_at_call 18;exact zCl (zXr _ _ _ _ _ 0 0 (Kh.out.drewN _) (Ki.out.drewN _) Kb.out)))
 go_wp2
 go_ret
 exact ⟨rfl,below_drewN HF.out _⟩
theorem lawTopStays_w (v:Value) (l:List Scu.Raw) {w:World} (h:IsRaws w w.heap.size v l) (n:Int) (hc:(Lit.int .i64 n).wf=true) (W:World) (hW:W=w) (ht:Tab W) :
 Calls Tryd.prog 5 #[v,.int .i64 n] W fun e w'=>e=.returned (.bool true)∧Below W.heap.size W w':=by
 subst hW
 exact lawTopStays_c v l n (zNb hc) W h ht
end Go.Proofs.YtnpphdaakookcaaDoor
namespace Go.Proofs.YtnpphdaakookcaaDoor.topStaysDone
open Go.ChangeShapes Go.WideShapes Go.ChangeAt Go.RowKit
open Go.ChangeMaps (open_string shut_string)
theorem own : ownKnob Tryd.prog.godebug = none := by kernel_rfl
theorem laidOut : laidOutB Tryd.prog = true := by kernel_rfl
set_option maxRecDepth 100000 in
theorem lifted (os : Os) (started : os.Started) (H : Type) (enc : TypeId × Value → H) :
    ReturnsInHanded {} Tryd.checked os 5 .any (fun w args => (Rows.topStaysSpec.pre enc Tryd.prog Tryd.f5 [] false w args ∧ laidMetH Tryd.prog Rows.topStaysRow.laid w) ∧ sizedMet enc Tryd.prog Tryd.f5 (OpenSpec.ofChange Rows.topStaysSpec) false w args)
      (Rows.topStaysSpec.post enc Tryd.prog Tryd.f5 false true false false) := by
  refine returnsInHanded_of_change_and (C := Tryd.checked) (X := fun w _ => laidMetH Tryd.prog Rows.topStaysRow.laid w) (fun _ _ _ hh h => h.of_heap hh) own started (by kernel_rfl) Tryd.func5
    (ChangeSpec.witness_shaped (enc := enc) (C := Tryd.checked) (os := os) (X := fun w _ => laidMetH Tryd.prog Rows.topStaysRow.laid w) false (World.doorLaid Tryd.prog doorFuel os) #[.slice none 0 0, .int .i64 0] 8 rfl (zCs os _) (by kernel_rfl) (by kernel_rfl) (by kernel_rfl) (zFu os _)) ?_
  intro W base args ds gs before hval0 hW _ hsz hL _
  have htab := zKz hL
  have hwt0 : ∀ (j : Nat) (t : TypeId) (d : DataW H), (Tryd.f5.params.toList ++ Rows.topStaysSpec.plain.varTypes Tryd.prog)[j]? = some t → (ds ++ gs)[j]? = some d → ∀ k ∈ d.weights Tryd.prog t, k ≤ reachBytes := fun j t d ht hd k hk => by
    have := List.all_eq_true.1 hsz k (DataW.weights_mem_each ht hd k hk)
    simpa using this
  clear hsz hL
  have hwt := hwt0
  rw [Tryd.params5] at hwt
  have hval : ∀ (j : Nat) t v, Tryd.f5.params[j]? = some t → args[j]? = some v → Value.okWide Tryd.prog W .any base t v := hval0
  have hW' := hW
  obtain ⟨p, q, hA0, hV, rfl, hfz, hnd⟩ := hW
  have hA : DataW.TrodAll enc Tryd.prog W 0 (fun _ => true) true Tryd.f5.params.toList args.toList ds p := hA0
  rw [Tryd.params5] at hA hval
  obtain ⟨v0, vs0, d0, ds0, p0, q0, hargs, rfl, rfl, h0, r0⟩ := trodAll_cons hA
  obtain ⟨v1, vs1, d1, ds1, p1, q1, rfl, rfl, rfl, h1, r1⟩ := trodAll_cons r0
  obtain ⟨rfl, rfl, rfl⟩ := trodAll_nil r1
  obtain rfl : args = #[v0, v1] := by cases args; simp_all
  obtain ⟨rfl, rfl⟩ := trodVars_none hV
  have k0 := h0
  have lt0 : ∀ x ∈ p0, x.block < W.heap.size := by obtain ⟨m, hm⟩ := k0; exact DataW.trod_lt m _ _ _ hm
  obtain ⟨a0, w0⟩ := zDh (hval 0 22 v0 rfl rfl) h0 (hwt 0 22 d0 rfl rfl)
  have k1 := h1
  have lt1 : ∀ x ∈ p1, x.block < W.heap.size := by obtain ⟨m, hm⟩ := k1; exact DataW.trod_lt m _ _ _ hm
  obtain ⟨a1, hv1, hd1, hp1, w1⟩ := open_int Tryd.underlying3 (hval 1 3 v1 rfl rfl) h1
  subst hv1
  clear hA0 hval0
  refine (lawTopStays_w v0 a0 w0 a1 w1 W rfl htab).mono fun e W' ⟨he, bel⟩ => ?_
  subst he
  exact ⟨_, rfl, _, _, _, [], _, [], hW', trodAll_mk1 (shut_bool Tryd.underlying4 _), (trodAll_cons_mk (Below.trod laidOut (by kernel_rfl) (of_decide_eq_true (by kernel_rfl)) k0 bel lt0) (trodAll_cons_mk (Below.trod laidOut (by kernel_rfl) (of_decide_eq_true (by kernel_rfl)) k1 bel lt1) trodAll_mk0)), rfl, bel.frame _, fun h => by cases h⟩
theorem over : Rows.TopStaysSaid :=
  OpenClaim.holds_of_wide 5 Tryd.f5 rfl rfl rfl rfl rfl rfl rfl ⟨rfl, rfl, rfl, rfl, rfl⟩ rfl rfl rfl rfl rfl (by kernel_rfl) Tryd.func5 (zFt rfl rfl rfl rfl rfl rfl (by as_aux_lemma => kernel_rfl) (by as_aux_lemma => kernel_rfl) (by as_aux_lemma => kernel_rfl) (by as_aux_lemma => kernel_rfl) (by as_aux_lemma => kernel_rfl) (by as_aux_lemma => kernel_rfl) (by as_aux_lemma => kernel_rfl))
    (of_decide_eq_true (by kernel_rfl)) (by unfold Func.isWrapper; first | (rw [if_pos (by decide +kernel)]; kernel_rfl) | (rw [if_neg (by decide +kernel)]; exact ⟨rfl, rfl⟩))
    (fun os started H enc _ => lifted os started H enc)
theorem proved : Rows.TopStaysCardSaid :=
  Claim7.holds_tied_plain_at .later [] [.data, .data, .data] true Rows.topStaysCard.stood.harness false
    over (fun _ h => by cases h) (by kernel_rfl) (fun _ h => by cases h) topStays_row_tie rfl ⟨rfl, rfl⟩ (by kernel_rfl) rfl
    (fun f fn hf hfn => by
      obtain rfl : f = 5 := Option.some.inj ((show Tryd.prog.funcNamed Rows.topStaysRow.func = some 5 by kernel_rfl).symm.trans hf) |>.symm
      obtain rfl : fn = Tryd.f5 := (Option.some.inj (Tryd.func5.symm.trans hfn)).symm
      exact ⟨by kernel_rfl, fun j t ht => by
        rw [Tryd.params5] at ht
        have hm : t ∈ [22, 3] := by simpa using Array.mem_of_getElem? ht
        have hall : ([22, 3].all fun u => !Tryd.prog.wantsStandIn u) = true := by kernel_rfl
        exact (show Tryd.prog.wantsStandIn t = false by simpa using List.all_eq_true.1 hall t hm)⟩)
    (by kernel_rfl)
end Go.Proofs.YtnpphdaakookcaaDoor.topStaysDone
