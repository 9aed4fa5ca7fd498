/- Part 28: words and walks under the laws of the whole. -/
import Derived.Lib.AppendIntMem
import Derived.Deep.DeepCutAuto
import Derived.IntWalk
import Derived.Test.YtnpphdaakookcaaDoorQ9
import Derived.Test.YtnpphdaakookcaaDoorQ27
set_option linter.unusedVariables false
set_option linter.unusedSimpArgs false
set_option maxHeartbeats 4000000
set_option maxRecDepth 100000
namespace Go.Proofs.YtnpphdaakookcaaDoor
open Go.RowKit
theorem yBl (n:Int) (h0 : -9223372036854775808<=n) (h1:n<=9223372036854775807) (w:World) (ht:Tab w) :
 Calls Tryd.prog 41 #[.int .i64 n] w fun e w'=>e=.returned (.string (Scu.numText n))/\Below w.heap.size w w':=by
 refine (Tryd.strconv_Itoa n h0 h1 w ht).mono ?_
 rintro e w' ⟨rfl,k,os,rfl⟩
 exact ⟨rfl,Lib.below_grow _ _ (mC _) _ _⟩
theorem useK {P Q:Prop} (h:P) (k:P->Q):Q:=k h
theorem Tab.drewN {w:World} (h:Tab w) (n:Nat):Tab (w.drewN n):=h
theorem Tab.drew {w:World} (h:Tab w):Tab w.drew:=h
theorem zHf {W:World} {g:Nat} {t:TypeId} {a0 a1 a2 a3 b0 b1 b2 b3:Value} (h:Blk W g t #[b0,b1,b2,b3]):Blk ((((W.setCell ⟨g,0,none⟩ a0).setCell ⟨g,1,none⟩ a1).setCell ⟨g,2,none⟩ a2).setCell ⟨g,3,none⟩ a3) g t #[a0,a1,a2,a3] :=
 (((h.set_ 0 a0).set_ 1 a1).set_ 2 a2).set_ 3 a3
theorem zEz {W w0:World} {B g:Nat} {a0 a1 a2 a3:Value} (h:Below B w0 W) (hg:B<=g):Below B w0 ((((W.setCell ⟨g,0,none⟩ a0).setCell ⟨g,1,none⟩ a1).setCell ⟨g,2,none⟩ a2).setCell ⟨g,3,none⟩ a3) :=
 (((h.setCell (p:=⟨g,0,none⟩) hg _).setCell (p:=⟨g,1,none⟩) hg _).setCell (p:=⟨g,2,none⟩) hg _).setCell (p:=⟨g,3,none⟩) hg _
theorem yBr (r:Scu.Raw) (hr:RawIn r) (h5:Scu.picked r.kind 12 < 5) (w:World) (ht:Tab w) :
 Calls Tryd.prog 27 #[.agg #[.int .i64 r.kind,.int .i64 r.a,.int .i64 r.b,.int .i64 r.c]] w fun e w'=>e=.returned (.agg #[.int .i64 1,.int .i64 (Scu.picked r.a 6),.int .i64 0,.string (Scu.wText (Scu.picked r.b 1000))])/\Below w.heap.size w w':=by
 have Hg:(⟨#[119]⟩:ByteArray).size+(Scu.numText (Scu.picked r.b 1000)).size<=9223372036854775807:=by
  have h:=Scu.picked_lt (n:=r.b) (many:=1000) (by decide)
  have:=Scu.wText_size h.1 h.2
  unfold Scu.wText at this
  rw [ByteArray.size_append] at this
  omega
 have Hk:=fun w=>run_string_add_sum (P:=Tryd.prog) (w:=w) (⟨#[119]⟩:ByteArray) (Scu.numText (Scu.picked r.b 1000)) Hg
 clear Hg
 obtain ⟨Hh,Hl,Hm,Hp⟩:=hr
 have ha:=Scu.picked_lt (n:=r.a) (many:=6) (by decide)
 have hb:=Scu.picked_lt (n:=r.b) (many:=1000) (by decide)
 have Hq:=ha.1
 have Hr:=ha.2
 have Hn:=hb.1
 have Ho:=hb.2
 have HT:=mA ht
 clear ha hb ht
 obtain ⟨k,hk⟩:=mK (Scu.picked r.kind 12)
 rw [hk] at h5
 have HK:=mA hk
 have Hs:0<=k:=by rw [<- hk];exact (Scu.picked_lt (by decide)).1
 clear hk
 go_enter Tryd.func27,Tryd.ntmps27
 go_wp2_with fail
 refine (zAt _ _ Hh (by decide) (by decide) _).mono ?_;rintro e w' ⟨rfl,rfl⟩
 rw [HK.out]
 go_upto_region 2 with fail
 obtain ⟨Wd,Ha⟩:=mJ ((w.alloc (.cells #[.int .i64 r.kind,.int .i64 r.a,.int .i64 r.b,.int .i64 r.c] 83)).alloc (.cells #[.int .i64 0,.int .i64 0,.int .i64 0,.string ⟨#[]⟩] 38))
 rw [<- Ha]
 have Hi:Below w.heap.size w Wd:=by rw [Ha];exact (zAa w _).alloc (by simp) _
 have Hd:Blk Wd w.heap.size 83 #[.int .i64 r.kind,.int .i64 r.a,.int .i64 r.b,.int .i64 r.c]:=by rw [Ha];exact (Blk.new w _ _).alloc _
 have Hb:Blk Wd (w.heap.size+1) 38 #[.int .i64 0,.int .i64 0,.int .i64 0,.string ⟨#[]⟩]:=by rw [Ha];exact Blk.new' (by simp)
 have HD:=mA (mB Hi (mB Hd Hb))
 obtain ⟨-,c1,c2⟩:=cz3 Hd
 obtain ⟨z0,z1,z2,z3⟩:=cz4 Hb
 have cl:=Hd.lt
 have zl:=Hb.lt
 have zz:=Hb.frozen
 clear Ha Hi Hd Hb
 go_wp2_with fail
 go_region_held3 (fun w'=>w'.cell? ⟨w.heap.size,1,none⟩=some (.int .i64 r.a)/\w'.cell? ⟨w.heap.size,2,none⟩=some (.int .i64 r.b))
  (first | (go_split_ands;(try dsimp only);(repeat' apply mB) <;> (with_reducible assumption)) | (go_split_ands;(try dsimp only);exact ⟨c1,c2⟩) | go_keep)
  (first
  | (go_at_call 14;refine (zAt _ _ ?_ ?_ ?_ _).mono ?_;(first | exact Hl | exact Hm | exact Hh);decide;decide;rintro e w' ⟨rfl,rfl⟩)
  | (go_at_call 41;refine (yBl (Scu.picked r.b 1000) (Int.le_trans (by decide) Hn) (Int.le_trans (Int.le_of_lt Ho) (by decide)) _ ((HT.out.below HD.out.1).drewN 1)).mono ?_;rintro e x1 ⟨rfl,k1'⟩
     refine useK (P:=Below Wd.heap.size Wd x1) ?_ ?_
     exact (below_drewN (mG _ _) 1).trans k1'
     intro nn1
     have M1:=mA nn1
     have d1:=cW nn1 cl c1
     have d2:=cW nn1 cl c2
     have He:=HD.out.2.2.same nn1
     obtain ⟨y0,y1,y2,y3⟩:=cz4 He
     have yl:=He.lt
     have yz:=He.frozen
     clear nn1 k1' He))
 all_goals
  (try (rename_i Hc;clear Hc))
  obtain ⟨Wf,Hf⟩:=mJ (((((x1.setCell ⟨w.heap.size+1,0,none⟩ (.int .i64 1)).setCell ⟨w.heap.size+1,1,none⟩ (.int .i64 (Scu.picked r.a 6))).setCell ⟨w.heap.size+1,2,none⟩ (.int .i64 0)).setCell ⟨w.heap.size+1,3,none⟩ (.string (⟨#[119]⟩ ++ Scu.numText (Scu.picked r.b 1000)))))
  rw [<- Hf]
  have Hj:Blk Wf (w.heap.size+1) 38 #[.int .i64 1,.int .i64 (Scu.picked r.a 6),.int .i64 0,.string (⟨#[119]⟩ ++ Scu.numText (Scu.picked r.b 1000))]:=by rw [Hf];exact zHf (HD.out.2.2.same M1.out)
  have HL:=mA (show Below w.heap.size w Wf from by rw [Hf];exact (zEz (HD.out.1.trans (Below.mono M1.out HD.out.1.size)) (Nat.le_succ w.heap.size)))
  obtain ⟨q0,q1,q2,q3⟩:=cz4 Hj
  clear Hj Hf
  go_wp2
  refine bodyPost_ret (v:=.agg #[.int .i64 1,.int .i64 (Scu.picked r.a 6),.int .i64 0,.string (⟨#[119]⟩ ++ Scu.numText (Scu.picked r.b 1000))]) (by simp [results,Tryd.results27,go_sem,q0,q1,q2,q3]) rfl ⟨rfl,HL.out⟩
theorem yBs (r:Scu.Raw) (hr:RawIn r) (h5:Scu.picked r.kind 12=5) (w:World) (ht:Tab w) :
 Calls Tryd.prog 27 #[.agg #[.int .i64 r.kind,.int .i64 r.a,.int .i64 r.b,.int .i64 r.c]] w fun e w'=>e=.returned (.agg #[.int .i64 2,.int .i64 (Scu.picked r.a 6),.int .i64 0,.string Scu.str0])/\Below w.heap.size w w':=by
 obtain ⟨Hg,Hh,Hi,Hj⟩:=hr
 have ha:=Scu.picked_lt (n:=r.a) (many:=6) (by decide)
 have hb:=Scu.picked_lt (n:=r.b) (many:=1000) (by decide)
 have Hk:=ha.1
 have Hl:=ha.2
 have Hm:=hb.1
 have Hn:=hb.2
 have HT:=mA ht
 clear ha hb ht
 obtain ⟨k,hk⟩:=mK (Scu.picked r.kind 12)
 rw [hk] at h5
 have HK:=mA hk
 have Ho:0<=k:=by rw [<- hk];exact (Scu.picked_lt (by decide)).1
 clear hk
 go_enter Tryd.func27,Tryd.ntmps27
 go_wp2_with fail
 refine (zAt _ _ Hg (by decide) (by decide) _).mono ?_;rintro e w' ⟨rfl,rfl⟩
 rw [HK.out]
 go_upto_region 2 with fail
 obtain ⟨Wd,Ha⟩:=mJ ((w.alloc (.cells #[.int .i64 r.kind,.int .i64 r.a,.int .i64 r.b,.int .i64 r.c] 83)).alloc (.cells #[.int .i64 0,.int .i64 0,.int .i64 0,.string ⟨#[]⟩] 38))
 rw [<- Ha]
 have He:Below w.heap.size w Wd:=by rw [Ha];exact (zAa w _).alloc (by simp) _
 have Hc:Blk Wd w.heap.size 83 #[.int .i64 r.kind,.int .i64 r.a,.int .i64 r.b,.int .i64 r.c]:=by rw [Ha];exact (Blk.new w _ _).alloc _
 have Hb:Blk Wd (w.heap.size+1) 38 #[.int .i64 0,.int .i64 0,.int .i64 0,.string ⟨#[]⟩]:=by rw [Ha];exact Blk.new' (by simp)
 have HD:=mA (mB He (mB Hc Hb))
 obtain ⟨-,c1,c2⟩:=cz3 Hc
 obtain ⟨z0,z1,z2,z3⟩:=cz4 Hb
 have cl:=Hc.lt
 have zl:=Hb.lt
 have zz:=Hb.frozen
 clear Ha He Hc Hb
 subst h5
 go_wp2_with fail
 refine (zAt _ _ Hh (by decide) (by decide) _).mono ?_;rintro e w' ⟨rfl,rfl⟩
 go_wp2_with fail
 obtain ⟨Wf,Hd⟩:=mJ (((((Wd.setCell ⟨w.heap.size+1,0,none⟩ (.int .i64 2)).setCell ⟨w.heap.size+1,1,none⟩ (.int .i64 (Scu.picked r.a 6))).setCell ⟨w.heap.size+1,2,none⟩ (.int .i64 0)).setCell ⟨w.heap.size+1,3,none⟩ (.string ⟨#[]⟩)))
 rw [<- Hd]
 have Hf:Blk Wf (w.heap.size+1) 38 #[.int .i64 2,.int .i64 (Scu.picked r.a 6),.int .i64 0,.string ⟨#[]⟩]:=by rw [Hd];exact zHf (HD.out.2.2.same (mG _ _))
 have HL:=mA (show Below w.heap.size w Wf from by rw [Hd];exact (zEz (HD.out.1.trans (Below.mono (mG _ _) HD.out.1.size)) (Nat.le_succ w.heap.size)))
 obtain ⟨q0,q1,q2,q3⟩:=cz4 Hf
 clear Hf Hd
 go_wp2
 refine bodyPost_ret (v:=.agg #[.int .i64 2,.int .i64 (Scu.picked r.a 6),.int .i64 0,.string ⟨#[]⟩]) (by simp [results,Tryd.results27,go_sem,q0,q1,q2,q3]) rfl ⟨rfl,HL.out⟩
theorem yBt (r:Scu.Raw) (hr:RawIn r) (h5:Scu.picked r.kind 12=6) (w:World) (ht:Tab w) :
 Calls Tryd.prog 27 #[.agg #[.int .i64 r.kind,.int .i64 r.a,.int .i64 r.b,.int .i64 r.c]] w fun e w'=>e=.returned (.agg #[.int .i64 4,.int .i64 0,.int .i64 0,.string Scu.str0])/\Below w.heap.size w w':=by
 obtain ⟨Hg,Hh,Hi,Hj⟩:=hr
 have ha:=Scu.picked_lt (n:=r.a) (many:=6) (by decide)
 have hb:=Scu.picked_lt (n:=r.b) (many:=1000) (by decide)
 have Hk:=ha.1
 have Hl:=ha.2
 have Hm:=hb.1
 have Hn:=hb.2
 have HT:=mA ht
 clear ha hb ht
 obtain ⟨k,hk⟩:=mK (Scu.picked r.kind 12)
 rw [hk] at h5
 have HK:=mA hk
 have Ho:0<=k:=by rw [<- hk];exact (Scu.picked_lt (by decide)).1
 clear hk
 go_enter Tryd.func27,Tryd.ntmps27
 go_wp2_with fail
 refine (zAt _ _ Hg (by decide) (by decide) _).mono ?_;rintro e w' ⟨rfl,rfl⟩
 rw [HK.out]
 go_upto_region 2 with fail
 obtain ⟨Wd,Ha⟩:=mJ ((w.alloc (.cells #[.int .i64 r.kind,.int .i64 r.a,.int .i64 r.b,.int .i64 r.c] 83)).alloc (.cells #[.int .i64 0,.int .i64 0,.int .i64 0,.string ⟨#[]⟩] 38))
 rw [<- Ha]
 have He:Below w.heap.size w Wd:=by rw [Ha];exact (zAa w _).alloc (by simp) _
 have Hc:Blk Wd w.heap.size 83 #[.int .i64 r.kind,.int .i64 r.a,.int .i64 r.b,.int .i64 r.c]:=by rw [Ha];exact (Blk.new w _ _).alloc _
 have Hb:Blk Wd (w.heap.size+1) 38 #[.int .i64 0,.int .i64 0,.int .i64 0,.string ⟨#[]⟩]:=by rw [Ha];exact Blk.new' (by simp)
 have HD:=mA (mB He (mB Hc Hb))
 obtain ⟨-,c1,c2⟩:=cz3 Hc
 obtain ⟨z0,z1,z2,z3⟩:=cz4 Hb
 have cl:=Hc.lt
 have zl:=Hb.lt
 have zz:=Hb.frozen
 clear Ha He Hc Hb
 subst h5
 go_wp2_with fail
 obtain ⟨Wf,Hd⟩:=mJ (((((Wd.setCell ⟨w.heap.size+1,0,none⟩ (.int .i64 4)).setCell ⟨w.heap.size+1,1,none⟩ (.int .i64 0)).setCell ⟨w.heap.size+1,2,none⟩ (.int .i64 0)).setCell ⟨w.heap.size+1,3,none⟩ (.string ⟨#[]⟩)))
 rw [<- Hd]
 have Hf:Blk Wf (w.heap.size+1) 38 #[.int .i64 4,.int .i64 0,.int .i64 0,.string ⟨#[]⟩]:=by rw [Hd];exact zHf (HD.out.2.2.same (mG _ _))
 have HL:=mA (show Below w.heap.size w Wf from by rw [Hd];exact (zEz (HD.out.1.trans (Below.mono (mG _ _) HD.out.1.size)) (Nat.le_succ w.heap.size)))
 obtain ⟨q0,q1,q2,q3⟩:=cz4 Hf
 clear Hf Hd
 go_wp2
 refine bodyPost_ret (v:=.agg #[.int .i64 4,.int .i64 0,.int .i64 0,.string ⟨#[]⟩]) (by simp [results,Tryd.results27,go_sem,q0,q1,q2,q3]) rfl ⟨rfl,HL.out⟩
theorem yBu (r:Scu.Raw) (hr:RawIn r) (h5:6 < Scu.picked r.kind 12) (w:World) (ht:Tab w) :
 Calls Tryd.prog 27 #[.agg #[.int .i64 r.kind,.int .i64 r.a,.int .i64 r.b,.int .i64 r.c]] w fun e w'=>e=.returned (.agg #[.int .i64 3,.int .i64 (Scu.picked r.a 6),.int .i64 (max 0 (Scu.picked r.b 6 - 2)),.string Scu.str0])/\Below w.heap.size w w':=by
 obtain ⟨Hf,Hi,Hj,Hk⟩:=hr
 have ha:=Scu.picked_lt (n:=r.a) (many:=6) (by decide)
 have hb:=Scu.picked_lt (n:=r.b) (many:=6) (by decide)
 have Hl:=ha.1
 have Hm:=ha.2
 have Hn:=hb.1
 have Ho:=hb.2
 have HT:=mA ht
 clear ha hb ht
 obtain ⟨k,hk⟩:=mK (Scu.picked r.kind 12)
 rw [hk] at h5
 have HK:=mA hk
 have Hp:0<=k:=by rw [<- hk];exact (Scu.picked_lt (by decide)).1
 clear hk
 go_enter Tryd.func27,Tryd.ntmps27
 go_wp2_with fail
 refine (zAt _ _ Hf (by decide) (by decide) _).mono ?_;rintro e w' ⟨rfl,rfl⟩
 rw [HK.out]
 go_upto_region 2 with fail
 obtain ⟨Wd,Ha⟩:=mJ ((w.alloc (.cells #[.int .i64 r.kind,.int .i64 r.a,.int .i64 r.b,.int .i64 r.c] 83)).alloc (.cells #[.int .i64 0,.int .i64 0,.int .i64 0,.string ⟨#[]⟩] 38))
 rw [<- Ha]
 have Hg:Below w.heap.size w Wd:=by rw [Ha];exact (zAa w _).alloc (by simp) _
 have Hd:Blk Wd w.heap.size 83 #[.int .i64 r.kind,.int .i64 r.a,.int .i64 r.b,.int .i64 r.c]:=by rw [Ha];exact (Blk.new w _ _).alloc _
 have Hb:Blk Wd (w.heap.size+1) 38 #[.int .i64 0,.int .i64 0,.int .i64 0,.string ⟨#[]⟩]:=by rw [Ha];exact Blk.new' (by simp)
 have HD:=mA (mB Hg (mB Hd Hb))
 obtain ⟨-,c1,c2⟩:=cz3 Hd
 obtain ⟨z0,z1,z2,z3⟩:=cz4 Hb
 have cl:=Hd.lt
 have zl:=Hb.lt
 have zz:=Hb.frozen
 clear Ha Hg Hd Hb
 have Hq:¬ k=5:=by omega
 have Hr:¬ k=6:=by omega
 have Hs:IntKind.i64.wrap (Scu.picked r.b 6 - 2)=Scu.picked r.b 6 - 2:=IntWalk.i64_in _ (by omega)
 go_wp2_with fail
 go_region_held3 (fun w'=>w'.cell? ⟨w.heap.size,1,none⟩=some (.int .i64 r.a)/\w'.cell? ⟨w.heap.size,2,none⟩=some (.int .i64 r.b))
  (first | (go_split_ands;(try dsimp only);(repeat' apply mB) <;> (with_reducible assumption)) | (go_split_ands;(try dsimp only);exact ⟨c1,c2⟩) | go_keep)
  (first
  | (go_at_call 14;refine (zAt _ _ ?_ ?_ ?_ _).mono ?_;(first | exact Hi | exact Hj | exact Hf);decide;decide;rintro e w' ⟨rfl,rfl⟩))
 all_goals
  (try (rename_i Hc;clear Hc))
  obtain ⟨Wf,He⟩:=mJ (((((Wd.setCell ⟨w.heap.size+1,0,none⟩ (.int .i64 3)).setCell ⟨w.heap.size+1,1,none⟩ (.int .i64 (Scu.picked r.a 6))).setCell ⟨w.heap.size+1,2,none⟩ (.int .i64 (max 0 (Scu.picked r.b 6 - 2)))).setCell ⟨w.heap.size+1,3,none⟩ (.string ⟨#[]⟩)).drew)
  rw [<- He]
  have Hh:Blk Wf (w.heap.size+1) 38 #[.int .i64 3,.int .i64 (Scu.picked r.a 6),.int .i64 (max 0 (Scu.picked r.b 6 - 2)),.string ⟨#[]⟩]:=by rw [He];exact zHf (HD.out.2.2.same (mG _ _))
  have HL:=mA (show Below w.heap.size w Wf from by rw [He];exact (zEz (HD.out.1.trans (Below.mono (mG _ _) HD.out.1.size)) (Nat.le_succ w.heap.size)).drew)
  obtain ⟨q0,q1,q2,q3⟩:=cz4 Hh
  clear Hh He
  go_wp2
  refine bodyPost_ret (v:=.agg #[.int .i64 3,.int .i64 (Scu.picked r.a 6),.int .i64 (max 0 (Scu.picked r.b 6 - 2)),.string ⟨#[]⟩]) (by simp [results,Tryd.results27,go_sem,q0,q1,q2,q3]) rfl ⟨rfl,HL.out⟩
theorem yBv (r:Scu.Raw) (hr:RawIn r) (w:World) (ht:Tab w) :
 Calls Tryd.prog 27 #[.agg #[.int .i64 r.kind,.int .i64 r.a,.int .i64 r.b,.int .i64 r.c]] w fun e w'=>e=.returned (vOp (Scu.rawOp r))/\Below w.heap.size w w':=by
 unfold Scu.rawOp
 split
 ·exact yBr r hr ‹_› w ht
 split
 ·exact yBs r hr ‹_› w ht
 split
 ·exact yBt r hr ‹_› w ht
 exact yBu r hr (by omega) w ht
theorem yBw (r:Scu.Raw) (hr:RawIn r) (o:Scu.Op) (ho:Scu.rawOp r=o) (w:World) (ht:Tab w) :
 Calls Tryd.prog 27 #[.agg #[.int .i64 r.kind,.int .i64 r.a,.int .i64 r.b,.int .i64 r.c]] w fun e w'=>e=.returned (.agg #[.int .i64 o.kind,.int .i64 o.at_,.int .i64 o.snap,.string o.data])/\Below w.heap.size w w':=by
 have:=yBv r hr w ht
 rw [ho] at this
 exact this
def reqV (q:Scu.Request):List Value:=[.int .i64 q.client,.int .i64 q.num,.int .i64 q.op.kind,.int .i64 q.op.at_,.int .i64 q.op.snap,.string q.op.data]
def ReqE (_:World) (_:Nat) (cs:List Value) (q:Scu.Request):Prop:=cs=reqV q
theorem zRq (g j:Nat):(⟨g,0,none⟩:Addr).add j=⟨g,j,none⟩:=by unfold Addr.add;split <;> simp_all
theorem zOs {w:World} {t:TypeId} {cs:List Value} {m:Nat} (hm:cs.length=m):Src1 (w.alloc (.cells cs.toArray t)) m (.slice (some ⟨w.heap.size,0,none⟩) 1 1) 1 cs:=by
 refine ⟨by rw [hm,Nat.one_mul],.inr ⟨_,_,rfl,fun j v hj=>?_⟩⟩
 rw [zRq,(Blk.new w t cs.toArray).cell j]
 simpa using hj
def IsReqs (w:World) (B:Nat) (v:Value) (l:List Scu.Request):Prop:=IsRow 62 6 56 ReqE w B v l
theorem yBm {w:World} {B:Nat} {v:Value} {l:List Scu.Request} (h:IsReqs w B v l) {k:Nat} (hk:k < l.length) :
 ∃ g o c,v=.slice (some ⟨g,o,none⟩) l.length c/\g < w.heap.size/\(∀ j u,(reqV l[k])[j]? = some u->w.cell? ⟨g,o+(k*6+j),none⟩=some u):=by
 obtain ⟨⟨A,c,css,rfl,hc,hl,hm,hr,h6⟩,_⟩:=h
 obtain ⟨g,o,cs,rfl,hg,_,Ha,rfl⟩:=zDo hl hm (by omega) hr h6 hk
 exact ⟨g,o,c,rfl,hg,Ha⟩
theorem IsReqs.cell_at {w:World} {B g o c:Nat} {l:List Scu.Request} (h:IsReqs w B (.slice (some ⟨g,o,none⟩) l.length c) l) {k:Nat} (hk:k < l.length) (j:Nat) (hj:j < 6):w.cell? ⟨g,o+k*6+j,none⟩=(reqV l[k])[j]?:=by
 obtain ⟨g',o',c',e,_,hc⟩:=yBm h hk
 cases e
 have hl:(reqV l[k])[j]? = some ((reqV l[k])[j]'(by simpa [reqV] using hj)):=mH _
 rw [hl,Nat.add_assoc]
 exact hc j _ hl
theorem IsReqs.below {w w':World} {B:Nat} {v:Value} {l:List Scu.Request} (h:IsReqs w B v l) (hb:Below w.heap.size w w'):IsReqs w' B v l :=
 IsRow.same h (Ts:=[62]) (by simp) (Same.below hb) (fun _ _ h=>h)
theorem zQa (v u:Value) (xs ys:List Scu.Str) (w:World) (B B':Nat) (hv:IsStrs w B v xs) (hu:IsStrs w B' u ys) :
 Calls Tryd.prog 21 #[v,u] w fun e w'=>e=.returned (.bool (decide (xs=ys)))/\∃ n,w'=w.drewN n:=by
 obtain ⟨⟨A,c,rfl,_,hr⟩,hl,_⟩:=hv
 obtain ⟨⟨A',c',rfl,_,He⟩,Hf,_⟩:=hu
 unfold R47 at hl Hf
 by_cases he:xs.length=ys.length
 ·have Hg:((xs.length:Int) != (ys.length:Int))=false:=by simp [he]
  have HE:=mA he
  clear he
  go_enter Tryd.func21,Tryd.ntmps21
  go_wp2
  go_loopw [13] (fun i wr=>∃ k:Nat,k<=xs.length/\i=.int .i64 k/\Hid (xs.take k=ys.take k)/\∃ n,wr=w.drewN n) (fun i _=>xs.length - (intOf i).toNat)
  case atStart=>exact ⟨0,mE _,rfl,rfl,0,rfl⟩
  case round =>
   obtain ⟨k,hk,rfl,ht,n,rfl⟩:=hrel
   by_cases Hb:k < xs.length
   ·have Hc:(k:Int) < (xs.length:Int):=by omega
    have hy:k < ys.length:=by have:=HE.out;omega
    have Hk:(k:Int) < (ys.length:Int):=by omega
    obtain ⟨g,o,rfl,_,hc⟩:=zEf hr Hb
    obtain ⟨g',o',rfl,_,Hl⟩:=zEf He hy
    by_cases hx:xs[k]=ys[k]
    ·have hb:(xs[k].toList == ys[k].toList)=true:=by rw [zFj];simp [hx]
     have HX:=mA hx
     clear hx
     go_wp2
     go_quiet (fail)
     go_wp2
     exact ⟨⟨k+1,Hb,by go_num,zFi ht.out Hb hy HX.out,_,rfl⟩,by simp only [intOf];omega⟩
    have hb:(xs[k].toList == ys[k].toList)=false:=by rw [zFj];simp [hx]
    have Ha:decide (xs=ys)=false:=by
     rw [decide_eq_false_iff_not]
     intro e
     subst e
     exact hx rfl
    have Hh:=mA Ha
    clear Ha
    go_wp2
    go_quiet (fail)
    go_wp2
    go_ret
    exact ⟨zAb (zBt Hh.out.symm),_,World.drewN_drewN _ _ _⟩
   have Hi:k=xs.length:=by omega
   have Hc:(xs.length:Int)<=(k:Int):=by omega
   have Hd:decide (xs=ys)=true:=by
    rw [decide_eq_true_eq]
    have h1:=ht.out
    rw [List.take_of_length_le (by omega),List.take_of_length_le (by have:=HE.out;omega)] at h1
    exact h1
   have Hj:=mA Hd
   clear Hi Hd
   go_wp2
   go_ret
   exact ⟨zAb (zBt Hj.out.symm),_,rfl⟩
 have Hg:((xs.length:Int) != (ys.length:Int))=true:=by
  rw [bne_iff_ne];omega
 have Ha:decide (xs=ys)=false:=by
  rw [decide_eq_false_iff_not]
  intro e
  exact he (by rw [e])
 rw [Ha]
 clear he
 go_enter Tryd.func21,Tryd.ntmps21
 go_wp2
 go_ret
 exact ⟨rfl,0,rfl⟩
theorem zOt {w:World} {base:Nat} {v:Value} {xs:List Scu.Str} {n:Nat} (h:w.ownsRow base 9 1 v n (xs.map Value.string)) (hn:n=xs.length) (hl:xs.length*16<=R47) (he:∀ s ∈ xs,s.size<=R47):IsStrs w 0 v xs:=by
 subst hn
 obtain ⟨A,c,rfl,hc,_,hr,_⟩:=zAg h
 exact ⟨⟨A,c,rfl,hc,hr⟩,hl,he⟩
theorem zWg {w:World} {t:TypeId} {u:Value} : Src1 (w.alloc (.cells #[u] t)) 1 (.slice (some ⟨w.heap.size,0,none⟩) 1 1) 1 [u]:=zOs (cs:=[u]) rfl
end Go.Proofs.YtnpphdaakookcaaDoor
