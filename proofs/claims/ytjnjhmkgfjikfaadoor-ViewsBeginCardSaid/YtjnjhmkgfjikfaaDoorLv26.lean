/- Part 26: words and walks under the laws of the whole. -/
import Derived.Lib.AppendIntMem
import Derived.IntWalk
import Derived.Test.YtjnjhmkgfjikfaaDoorLv20
import Derived.Test.YtjnjhmkgfjikfaaDoorLv24
import Derived.Test.YtjnjhmkgfjikfaaDoorLv25
set_option linter.unusedVariables false
set_option linter.unusedSimpArgs false
set_option maxHeartbeats 4000000
set_option maxRecDepth 100000
namespace Go.Proofs.YtjnjhmkgfjikfaaDoor
open Go.RowKit
theorem zNd (n:Int) (h0 : -9223372036854775808<=n) (h1:n<=9223372036854775807) (w:World) (ht:Tab w) :
 Calls Tryd.prog 35 #[.int .i64 n] w fun e w'=>e=.returned (.string (Scu.numText n))/\Below w.heap.size w w':=by
 refine (Tryd.strconv_Itoa n h0 h1 w ht).mono ?_
 rintro e w' ⟨rfl,k,os,rfl⟩
 exact ⟨rfl,Lib.below_grow _ _ (mC _) _ _⟩
theorem useK {P Q:Prop} (h:P) (k:P->Q):Q:=k h
theorem Tab.drewN {w:World} (h:Tab w) (n:Nat):Tab (w.drewN n):=h
theorem Tab.drew {w:World} (h:Tab w):Tab w.drew:=h
theorem zDa {W:World} {g:Nat} {t:TypeId} {a0 a1 a2 a3 b0 b1 b2 b3:Value} (h:Blk W g t #[b0,b1,b2,b3]):Blk ((((W.setCell ⟨g,0,none⟩ a0).setCell ⟨g,1,none⟩ a1).setCell ⟨g,2,none⟩ a2).setCell ⟨g,3,none⟩ a3) g t #[a0,a1,a2,a3] :=
 (((h.set_ 0 a0).set_ 1 a1).set_ 2 a2).set_ 3 a3
theorem zBy {W w0:World} {B g:Nat} {a0 a1 a2 a3:Value} (h:Below B w0 W) (hg:B<=g):Below B w0 ((((W.setCell ⟨g,0,none⟩ a0).setCell ⟨g,1,none⟩ a1).setCell ⟨g,2,none⟩ a2).setCell ⟨g,3,none⟩ a3) :=
 (((h.setCell (p:=⟨g,0,none⟩) hg _).setCell (p:=⟨g,1,none⟩) hg _).setCell (p:=⟨g,2,none⟩) hg _).setCell (p:=⟨g,3,none⟩) hg _
theorem zNg (r:Scu.Raw) (hr:RawIn r) (h5:Scu.picked r.kind 12 < 5) (w:World) (ht:Tab w) :
 Calls Tryd.prog 21 #[.agg #[.int .i64 r.kind,.int .i64 r.a,.int .i64 r.b,.int .i64 r.c]] w fun e w'=>e=.returned (.agg #[.int .i64 1,.int .i64 (Scu.picked r.a 6),.int .i64 0,.string (Scu.wText (Scu.picked r.b 1000))])/\Below w.heap.size w w':=by
 have Hg:(⟨#[119]⟩:ByteArray).size+(Scu.numText (Scu.picked r.b 1000)).size<=9223372036854775807:=by
  have h:=Scu.picked_lt (n:=r.b) (many:=1000) (by decide)
  have:=Scu.wText_size h.1 h.2
  unfold Scu.wText at this
  rw [ByteArray.size_append] at this
  omega
 have Hk:=fun w=>run_string_add_sum (P:=Tryd.prog) (w:=w) (⟨#[119]⟩:ByteArray) (Scu.numText (Scu.picked r.b 1000)) Hg
 clear Hg
 obtain ⟨Hh,Hl,Hm,Hp⟩:=hr
 have ha:=Scu.picked_lt (n:=r.a) (many:=6) (by decide)
 have hb:=Scu.picked_lt (n:=r.b) (many:=1000) (by decide)
 have Hq:=ha.1
 have Hr:=ha.2
 have Hn:=hb.1
 have Ho:=hb.2
 have HT:=mA ht
 clear ha hb ht
 obtain ⟨k,hk⟩:=mK (Scu.picked r.kind 12)
 rw [hk] at h5
 have HK:=mA hk
 have Hs:0<=k:=by rw [<- hk];exact (Scu.picked_lt (by decide)).1
 clear hk
 go_enter Tryd.func21,Tryd.ntmps21
 go_wp2_with fail
 refine (zAy _ _ Hh (by decide) (by decide) _).mono ?_;rintro e w' ⟨rfl,rfl⟩
 rw [HK.out]
 go_upto_region 2 with fail
 obtain ⟨Wd,Ha⟩:=mJ ((w.alloc (.cells #[.int .i64 r.kind,.int .i64 r.a,.int .i64 r.b,.int .i64 r.c] 61)).alloc (.cells #[.int .i64 0,.int .i64 0,.int .i64 0,.string ⟨#[]⟩] 54))
 rw [<- Ha]
 have Hi:Below w.heap.size w Wd:=by rw [Ha];exact (zAa w _).alloc (by simp) _
 have Hd:Blk Wd w.heap.size 61 #[.int .i64 r.kind,.int .i64 r.a,.int .i64 r.b,.int .i64 r.c]:=by rw [Ha];exact (Blk.new w _ _).alloc _
 have Hb:Blk Wd (w.heap.size+1) 54 #[.int .i64 0,.int .i64 0,.int .i64 0,.string ⟨#[]⟩]:=by rw [Ha];exact Blk.new' (by simp)
 have HD:=mA (mB Hi (mB Hd Hb))
 obtain ⟨-,c1,c2⟩:=cz3 Hd
 obtain ⟨z0,z1,z2,z3⟩:=cz4 Hb
 have cl:=Hd.lt
 have zl:=Hb.lt
 have zz:=Hb.frozen
 clear Ha Hi Hd Hb
 go_wp2_with fail
 go_region_held3 (fun w'=>w'.cell? ⟨w.heap.size,1,none⟩=some (.int .i64 r.a)/\w'.cell? ⟨w.heap.size,2,none⟩=some (.int .i64 r.b))
  (first | (go_split_ands;(try dsimp only);(repeat' apply mB) <;> (with_reducible assumption)) | (go_split_ands;(try dsimp only);exact ⟨c1,c2⟩) | go_keep)
  (first
  | (go_at_call 6;refine (zAy _ _ ?_ ?_ ?_ _).mono ?_;(first | exact Hl | exact Hm | exact Hh);decide;decide;rintro e w' ⟨rfl,rfl⟩)
  | (go_at_call 35;refine (zNd (Scu.picked r.b 1000) (Int.le_trans (by decide) Hn) (Int.le_trans (Int.le_of_lt Ho) (by decide)) _ ((HT.out.below HD.out.1).drewN 1)).mono ?_;rintro e x1 ⟨rfl,k1'⟩
     refine useK (P:=Below Wd.heap.size Wd x1) ?_ ?_
     exact (below_drewN (mG _ _) 1).trans k1'
     intro nn1
     have M1:=mA nn1
     have d1:=cW nn1 cl c1
     have d2:=cW nn1 cl c2
     have He:=HD.out.2.2.same nn1
     obtain ⟨y0,y1,y2,y3⟩:=cz4 He
     have yl:=He.lt
     have yz:=He.frozen
     clear nn1 k1' He))
 all_goals
  (try (rename_i Hc;clear Hc))
  obtain ⟨Wf,Hf⟩:=mJ (((((x1.setCell ⟨w.heap.size+1,0,none⟩ (.int .i64 1)).setCell ⟨w.heap.size+1,1,none⟩ (.int .i64 (Scu.picked r.a 6))).setCell ⟨w.heap.size+1,2,none⟩ (.int .i64 0)).setCell ⟨w.heap.size+1,3,none⟩ (.string (⟨#[119]⟩ ++ Scu.numText (Scu.picked r.b 1000)))))
  rw [<- Hf]
  have Hj:Blk Wf (w.heap.size+1) 54 #[.int .i64 1,.int .i64 (Scu.picked r.a 6),.int .i64 0,.string (⟨#[119]⟩ ++ Scu.numText (Scu.picked r.b 1000))]:=by rw [Hf];exact zDa (HD.out.2.2.same M1.out)
  have HL:=mA (show Below w.heap.size w Wf from by rw [Hf];exact (zBy (HD.out.1.trans (Below.mono M1.out HD.out.1.size)) (Nat.le_succ w.heap.size)))
  obtain ⟨q0,q1,q2,q3⟩:=cz4 Hj
  clear Hj Hf
  go_wp2
  refine bodyPost_ret (v:=.agg #[.int .i64 1,.int .i64 (Scu.picked r.a 6),.int .i64 0,.string (⟨#[119]⟩ ++ Scu.numText (Scu.picked r.b 1000))]) (by simp [results,Tryd.results21,go_sem,q0,q1,q2,q3]) rfl ⟨rfl,HL.out⟩
theorem zNh (r:Scu.Raw) (hr:RawIn r) (h5:Scu.picked r.kind 12=5) (w:World) (ht:Tab w) :
 Calls Tryd.prog 21 #[.agg #[.int .i64 r.kind,.int .i64 r.a,.int .i64 r.b,.int .i64 r.c]] w fun e w'=>e=.returned (.agg #[.int .i64 2,.int .i64 (Scu.picked r.a 6),.int .i64 0,.string Scu.str0])/\Below w.heap.size w w':=by
 obtain ⟨Hg,Hh,Hi,Hj⟩:=hr
 have ha:=Scu.picked_lt (n:=r.a) (many:=6) (by decide)
 have hb:=Scu.picked_lt (n:=r.b) (many:=1000) (by decide)
 have Hk:=ha.1
 have Hl:=ha.2
 have Hm:=hb.1
 have Hn:=hb.2
 have HT:=mA ht
 clear ha hb ht
 obtain ⟨k,hk⟩:=mK (Scu.picked r.kind 12)
 rw [hk] at h5
 have HK:=mA hk
 have Ho:0<=k:=by rw [<- hk];exact (Scu.picked_lt (by decide)).1
 clear hk
 go_enter Tryd.func21,Tryd.ntmps21
 go_wp2_with fail
 refine (zAy _ _ Hg (by decide) (by decide) _).mono ?_;rintro e w' ⟨rfl,rfl⟩
 rw [HK.out]
 go_upto_region 2 with fail
 obtain ⟨Wd,Ha⟩:=mJ ((w.alloc (.cells #[.int .i64 r.kind,.int .i64 r.a,.int .i64 r.b,.int .i64 r.c] 61)).alloc (.cells #[.int .i64 0,.int .i64 0,.int .i64 0,.string ⟨#[]⟩] 54))
 rw [<- Ha]
 have He:Below w.heap.size w Wd:=by rw [Ha];exact (zAa w _).alloc (by simp) _
 have Hc:Blk Wd w.heap.size 61 #[.int .i64 r.kind,.int .i64 r.a,.int .i64 r.b,.int .i64 r.c]:=by rw [Ha];exact (Blk.new w _ _).alloc _
 have Hb:Blk Wd (w.heap.size+1) 54 #[.int .i64 0,.int .i64 0,.int .i64 0,.string ⟨#[]⟩]:=by rw [Ha];exact Blk.new' (by simp)
 have HD:=mA (mB He (mB Hc Hb))
 obtain ⟨-,c1,c2⟩:=cz3 Hc
 obtain ⟨z0,z1,z2,z3⟩:=cz4 Hb
 have cl:=Hc.lt
 have zl:=Hb.lt
 have zz:=Hb.frozen
 clear Ha He Hc Hb
 subst h5
 go_wp2_with fail
 refine (zAy _ _ Hh (by decide) (by decide) _).mono ?_;rintro e w' ⟨rfl,rfl⟩
 go_wp2_with fail
 obtain ⟨Wf,Hd⟩:=mJ (((((Wd.setCell ⟨w.heap.size+1,0,none⟩ (.int .i64 2)).setCell ⟨w.heap.size+1,1,none⟩ (.int .i64 (Scu.picked r.a 6))).setCell ⟨w.heap.size+1,2,none⟩ (.int .i64 0)).setCell ⟨w.heap.size+1,3,none⟩ (.string ⟨#[]⟩)))
 rw [<- Hd]
 have Hf:Blk Wf (w.heap.size+1) 54 #[.int .i64 2,.int .i64 (Scu.picked r.a 6),.int .i64 0,.string ⟨#[]⟩]:=by rw [Hd];exact zDa (HD.out.2.2.same (mG _ _))
 have HL:=mA (show Below w.heap.size w Wf from by rw [Hd];exact (zBy (HD.out.1.trans (Below.mono (mG _ _) HD.out.1.size)) (Nat.le_succ w.heap.size)))
 obtain ⟨q0,q1,q2,q3⟩:=cz4 Hf
 clear Hf Hd
 go_wp2
 refine bodyPost_ret (v:=.agg #[.int .i64 2,.int .i64 (Scu.picked r.a 6),.int .i64 0,.string ⟨#[]⟩]) (by simp [results,Tryd.results21,go_sem,q0,q1,q2,q3]) rfl ⟨rfl,HL.out⟩
theorem zNi (r:Scu.Raw) (hr:RawIn r) (h5:Scu.picked r.kind 12=6) (w:World) (ht:Tab w) :
 Calls Tryd.prog 21 #[.agg #[.int .i64 r.kind,.int .i64 r.a,.int .i64 r.b,.int .i64 r.c]] w fun e w'=>e=.returned (.agg #[.int .i64 4,.int .i64 0,.int .i64 0,.string Scu.str0])/\Below w.heap.size w w':=by
 obtain ⟨Hg,Hh,Hi,Hj⟩:=hr
 have ha:=Scu.picked_lt (n:=r.a) (many:=6) (by decide)
 have hb:=Scu.picked_lt (n:=r.b) (many:=1000) (by decide)
 have Hk:=ha.1
 have Hl:=ha.2
 have Hm:=hb.1
 have Hn:=hb.2
 have HT:=mA ht
 clear ha hb ht
 obtain ⟨k,hk⟩:=mK (Scu.picked r.kind 12)
 rw [hk] at h5
 have HK:=mA hk
 have Ho:0<=k:=by rw [<- hk];exact (Scu.picked_lt (by decide)).1
 clear hk
 go_enter Tryd.func21,Tryd.ntmps21
 go_wp2_with fail
 refine (zAy _ _ Hg (by decide) (by decide) _).mono ?_;rintro e w' ⟨rfl,rfl⟩
 rw [HK.out]
 go_upto_region 2 with fail
 obtain ⟨Wd,Ha⟩:=mJ ((w.alloc (.cells #[.int .i64 r.kind,.int .i64 r.a,.int .i64 r.b,.int .i64 r.c] 61)).alloc (.cells #[.int .i64 0,.int .i64 0,.int .i64 0,.string ⟨#[]⟩] 54))
 rw [<- Ha]
 have He:Below w.heap.size w Wd:=by rw [Ha];exact (zAa w _).alloc (by simp) _
 have Hc:Blk Wd w.heap.size 61 #[.int .i64 r.kind,.int .i64 r.a,.int .i64 r.b,.int .i64 r.c]:=by rw [Ha];exact (Blk.new w _ _).alloc _
 have Hb:Blk Wd (w.heap.size+1) 54 #[.int .i64 0,.int .i64 0,.int .i64 0,.string ⟨#[]⟩]:=by rw [Ha];exact Blk.new' (by simp)
 have HD:=mA (mB He (mB Hc Hb))
 obtain ⟨-,c1,c2⟩:=cz3 Hc
 obtain ⟨z0,z1,z2,z3⟩:=cz4 Hb
 have cl:=Hc.lt
 have zl:=Hb.lt
 have zz:=Hb.frozen
 clear Ha He Hc Hb
 subst h5
 go_wp2_with fail
 obtain ⟨Wf,Hd⟩:=mJ (((((Wd.setCell ⟨w.heap.size+1,0,none⟩ (.int .i64 4)).setCell ⟨w.heap.size+1,1,none⟩ (.int .i64 0)).setCell ⟨w.heap.size+1,2,none⟩ (.int .i64 0)).setCell ⟨w.heap.size+1,3,none⟩ (.string ⟨#[]⟩)))
 rw [<- Hd]
 have Hf:Blk Wf (w.heap.size+1) 54 #[.int .i64 4,.int .i64 0,.int .i64 0,.string ⟨#[]⟩]:=by rw [Hd];exact zDa (HD.out.2.2.same (mG _ _))
 have HL:=mA (show Below w.heap.size w Wf from by rw [Hd];exact (zBy (HD.out.1.trans (Below.mono (mG _ _) HD.out.1.size)) (Nat.le_succ w.heap.size)))
 obtain ⟨q0,q1,q2,q3⟩:=cz4 Hf
 clear Hf Hd
 go_wp2
 refine bodyPost_ret (v:=.agg #[.int .i64 4,.int .i64 0,.int .i64 0,.string ⟨#[]⟩]) (by simp [results,Tryd.results21,go_sem,q0,q1,q2,q3]) rfl ⟨rfl,HL.out⟩
theorem zNj (r:Scu.Raw) (hr:RawIn r) (h5:6 < Scu.picked r.kind 12) (w:World) (ht:Tab w) :
 Calls Tryd.prog 21 #[.agg #[.int .i64 r.kind,.int .i64 r.a,.int .i64 r.b,.int .i64 r.c]] w fun e w'=>e=.returned (.agg #[.int .i64 3,.int .i64 (Scu.picked r.a 6),.int .i64 (max 0 (Scu.picked r.b 6 - 2)),.string Scu.str0])/\Below w.heap.size w w':=by
 obtain ⟨Hf,Hi,Hj,Hk⟩:=hr
 have ha:=Scu.picked_lt (n:=r.a) (many:=6) (by decide)
 have hb:=Scu.picked_lt (n:=r.b) (many:=6) (by decide)
 have Hl:=ha.1
 have Hm:=ha.2
 have Hn:=hb.1
 have Ho:=hb.2
 have HT:=mA ht
 clear ha hb ht
 obtain ⟨k,hk⟩:=mK (Scu.picked r.kind 12)
 rw [hk] at h5
 have HK:=mA hk
 have Hp:0<=k:=by rw [<- hk];exact (Scu.picked_lt (by decide)).1
 clear hk
 go_enter Tryd.func21,Tryd.ntmps21
 go_wp2_with fail
 refine (zAy _ _ Hf (by decide) (by decide) _).mono ?_;rintro e w' ⟨rfl,rfl⟩
 rw [HK.out]
 go_upto_region 2 with fail
 obtain ⟨Wd,Ha⟩:=mJ ((w.alloc (.cells #[.int .i64 r.kind,.int .i64 r.a,.int .i64 r.b,.int .i64 r.c] 61)).alloc (.cells #[.int .i64 0,.int .i64 0,.int .i64 0,.string ⟨#[]⟩] 54))
 rw [<- Ha]
 have Hg:Below w.heap.size w Wd:=by rw [Ha];exact (zAa w _).alloc (by simp) _
 have Hd:Blk Wd w.heap.size 61 #[.int .i64 r.kind,.int .i64 r.a,.int .i64 r.b,.int .i64 r.c]:=by rw [Ha];exact (Blk.new w _ _).alloc _
 have Hb:Blk Wd (w.heap.size+1) 54 #[.int .i64 0,.int .i64 0,.int .i64 0,.string ⟨#[]⟩]:=by rw [Ha];exact Blk.new' (by simp)
 have HD:=mA (mB Hg (mB Hd Hb))
 obtain ⟨-,c1,c2⟩:=cz3 Hd
 obtain ⟨z0,z1,z2,z3⟩:=cz4 Hb
 have cl:=Hd.lt
 have zl:=Hb.lt
 have zz:=Hb.frozen
 clear Ha Hg Hd Hb
 have Hq:¬ k=5:=by omega
 have Hr:¬ k=6:=by omega
 have Hs:IntKind.i64.wrap (Scu.picked r.b 6 - 2)=Scu.picked r.b 6 - 2:=IntWalk.i64_in _ (by omega)
 go_wp2_with fail
 go_region_held3 (fun w'=>w'.cell? ⟨w.heap.size,1,none⟩=some (.int .i64 r.a)/\w'.cell? ⟨w.heap.size,2,none⟩=some (.int .i64 r.b))
  (first | (go_split_ands;(try dsimp only);(repeat' apply mB) <;> (with_reducible assumption)) | (go_split_ands;(try dsimp only);exact ⟨c1,c2⟩) | go_keep)
  (first
  | (go_at_call 6;refine (zAy _ _ ?_ ?_ ?_ _).mono ?_;(first | exact Hi | exact Hj | exact Hf);decide;decide;rintro e w' ⟨rfl,rfl⟩))
 all_goals
  (try (rename_i Hc;clear Hc))
  obtain ⟨Wf,He⟩:=mJ (((((Wd.setCell ⟨w.heap.size+1,0,none⟩ (.int .i64 3)).setCell ⟨w.heap.size+1,1,none⟩ (.int .i64 (Scu.picked r.a 6))).setCell ⟨w.heap.size+1,2,none⟩ (.int .i64 (max 0 (Scu.picked r.b 6 - 2)))).setCell ⟨w.heap.size+1,3,none⟩ (.string ⟨#[]⟩)).drew)
  rw [<- He]
  have Hh:Blk Wf (w.heap.size+1) 54 #[.int .i64 3,.int .i64 (Scu.picked r.a 6),.int .i64 (max 0 (Scu.picked r.b 6 - 2)),.string ⟨#[]⟩]:=by rw [He];exact zDa (HD.out.2.2.same (mG _ _))
  have HL:=mA (show Below w.heap.size w Wf from by rw [He];exact (zBy (HD.out.1.trans (Below.mono (mG _ _) HD.out.1.size)) (Nat.le_succ w.heap.size)).drew)
  obtain ⟨q0,q1,q2,q3⟩:=cz4 Hh
  clear Hh He
  go_wp2
  refine bodyPost_ret (v:=.agg #[.int .i64 3,.int .i64 (Scu.picked r.a 6),.int .i64 (max 0 (Scu.picked r.b 6 - 2)),.string ⟨#[]⟩]) (by simp [results,Tryd.results21,go_sem,q0,q1,q2,q3]) rfl ⟨rfl,HL.out⟩
theorem zNk (r:Scu.Raw) (hr:RawIn r) (w:World) (ht:Tab w) :
 Calls Tryd.prog 21 #[.agg #[.int .i64 r.kind,.int .i64 r.a,.int .i64 r.b,.int .i64 r.c]] w fun e w'=>e=.returned (vOp (Scu.rawOp r))/\Below w.heap.size w w':=by
 unfold Scu.rawOp
 split
 ·exact zNg r hr ‹_› w ht
 split
 ·exact zNh r hr ‹_› w ht
 split
 ·exact zNi r hr ‹_› w ht
 exact zNj r hr (by omega) w ht
theorem zMc (r:Scu.Raw) (hr:RawIn r) (o:Scu.Op) (ho:Scu.rawOp r=o) (w:World) (ht:Tab w) :
 Calls Tryd.prog 21 #[.agg #[.int .i64 r.kind,.int .i64 r.a,.int .i64 r.b,.int .i64 r.c]] w fun e w'=>e=.returned (.agg #[.int .i64 o.kind,.int .i64 o.at_,.int .i64 o.snap,.string o.data])/\Below w.heap.size w w':=by
 have:=zNk r hr w ht
 rw [ho] at this
 exact this
abbrev reqInt:Int->Value:=Value.int .i64
def reqV (q:Scu.Request):List Value:=[.int .i64 q.client,.int .i64 q.num,.int .i64 q.op.kind,.int .i64 q.op.at_,.int .i64 q.op.snap,.string q.op.data]
def ReqE (_:World) (_:Nat) (cs:List Value) (q:Scu.Request):Prop:=cs=reqV q
theorem zGj:ElT 36 56 6 56:=by
 obtain ⟨i,h1,h2,h3,h4⟩:=info_parts (P:=Tryd.prog) (e:=56) (z:=.agg #[.int .i64 0,.int .i64 0,.int .i64 0,.int .i64 0,.int .i64 0,.string ByteArray.empty]) (size:=6) (bytes:=56) (by kernel_rfl)
 exact ⟨Tryd.underlying36,by omega,i,_,h1,h2,h3,h4,rfl⟩
theorem zHn (g j:Nat):(⟨g,0,none⟩:Addr).add j=⟨g,j,none⟩:=by unfold Addr.add;split <;> simp_all
theorem zFd {w:World} {t:TypeId} {cs:List Value} {m:Nat} (hm:cs.length=m):Src1 (w.alloc (.cells cs.toArray t)) m (.slice (some ⟨w.heap.size,0,none⟩) 1 1) 1 cs:=by
 refine ⟨by rw [hm,Nat.one_mul],.inr ⟨_,_,rfl,fun j v hj=>?_⟩⟩
 rw [zHn,(Blk.new w t cs.toArray).cell j]
 simpa using hj
structure ReqI (w:World) (B:Nat) (v:Value) (l:List Scu.Raw) (gx:Nat) (nx:List Int) (qs:List Scu.Request) (ov:Value) (css:List (List Value)) (wr:World):Prop where
 nxt:Blk wr gx 59 (nx.map reqInt).toArray
 out:OwnR 56 6 56 ReqE wr (w.heap.size+1) ov qs css
 raws:IsRaws wr B v l
 low:Below w.heap.size w wr
theorem ReqI.below {w:World} {B:Nat} {v:Value} {l:List Scu.Raw} {gx:Nat} {nx:List Int} {qs:List Scu.Request} {ov:Value} {css:List (List Value)} {wr w':World} (h:ReqI w B v l gx nx qs ov css wr) (hb:Below wr.heap.size wr w'):ReqI w B v l gx nx qs ov css w' :=
 ⟨h.nxt.same hb,h.out.same (Ts:=[56]) (B:=0) (by simp) (Same.below hb) (fun _ _ h=>h),h.raws.below hb,h.low.trans (hb.mono h.low.size)⟩
theorem ReqI.setNext {w:World} {B:Nat} {v:Value} {l:List Scu.Raw} {gx:Nat} {nx:List Int} {qs:List Scu.Request} {ov:Value} {css:List (List Value)} {wr:World} (h:ReqI w B v l gx nx qs ov css wr) (hg:gx=w.heap.size) (hB:B<=w.heap.size) (ht:59 ∉ [56,61]) (j:Nat) (x:Int) :
 ReqI w B v l gx (nx.set j x) qs ov css (wr.setCell ⟨gx,j,none⟩ (.int .i64 x)):=by
 have hs:Same [56,61] B wr (wr.setCell ⟨gx,j,none⟩ (.int .i64 x)):=Same.set_ h.nxt (by omega) ht j _
 refine ⟨?_,h.out.same (by simp) hs (fun _ _ h=>h),h.raws.same (by simp) hs,h.low.setCell (p:=⟨gx,j,none⟩) (by show w.heap.size<=gx;omega) _⟩
 have:=h.nxt.set_ j (.int .i64 x)
 rw [List.setIfInBounds_toArray] at this
 rw [List.map_set]
 exact this
theorem ReqI.push {w P w4:World} {B:Nat} {v v4:Value} {l:List Scu.Raw} {gx:Nat} {nx:List Int} {qs:List Scu.Request} {ov:Value} {css:List (List Value)} {q:Scu.Request} (h:ReqI w B v l gx nx qs ov css P) (hB:B<=w.heap.size) (hm:(qs.length+1)*56<=R47)
 (h4:w4.ownsRow (w.heap.size+1) 56 6 v4 (qs.length+1) (css.flatten ++ reqV q)) (hg:P.grownBy w4 ov.ownBlock) (ht:56 ∉ [59,61]):ReqI w B v l gx nx (qs ++ [q]) v4 (css ++ [reqV q]) w4:=by
 have hs:Same [59,61] B P w4:=Same.own h.out.row hg (by omega) ht
 refine ⟨?_,h.out.push hm rfl rfl h4 (fun _ _ h=>h),h.raws.same (by simp) hs,h.low.grown hg h.low.size (fun k hk=>by have:=(h.out.lt k hk).1;omega)⟩
 have Ha:Same [59] 0 P w4:=Same.own h.out.row hg (by omega) (fun e=>ht (by simp only [List.mem_cons,List.not_mem_nil,or_false] at e ⊢;exact .inl e))
 exact (Ha.keep gx h.nxt.lt (.inr ⟨_,_,_,by simp,h.nxt⟩)).trans h.nxt
theorem zEi {l:List Scu.Raw} {k:Nat} (hk:k < l.length):Scu.reqsOf (l.take (k+1))=Scu.reqStep (Scu.reqsOf (l.take k)) l[k]:=by
 rw [show l.take (k+1)=l.take k ++ [l[k]] from by rw [List.take_add_one,mH hk];rfl,Scu.reqsOf_snoc]
theorem zBl {nx:List Int} (h5:nx.length=5) {j:Nat} (hj:j < 5):(nx.map reqInt).toArray[j]? = some (.int .i64 (nx.getD j 0)):=by
 rw [List.getElem?_toArray,List.getElem?_map,mH (by omega),mI,mH (by omega)]
 rfl
theorem zEu (v:Value) (l:List Scu.Raw) (most:Nat) (w:World) (B:Nat) (hB:B<=w.heap.size) (hl:IsRaws w B v l) (ht:Tab w) (hm:most<=1000) :
 Calls Tryd.prog 8 #[v,.int .i64 most] w fun e w'=>(∃ A c css,e=.returned (.slice A (Scu.requests l most).length c)/\OwnR 56 6 56 ReqE w' w.heap.size (.slice A (Scu.requests l most).length c) (Scu.requests l most) css)/\Below w.heap.size w w':=by
 obtain ⟨Al,cl,rfl,Ks⟩:=hl.form'
 have Hx:=hl.len
 unfold R47 at Hx
 have HT:=mA ht
 have h0:=zAa w (.cells #[.int .i64 0,.int .i64 0,.int .i64 0,.int .i64 0,.int .i64 0] 59)
 have HI:=mA (show ReqI w B (.slice Al l.length cl) l w.heap.size [0,0,0,0,0] [] (.slice none 0 0) [] (w.alloc (.cells #[.int .i64 0,.int .i64 0,.int .i64 0,.int .i64 0,.int .i64 0] 59)) from ⟨Blk.new w _ _,OwnR.nil_,hl.below h0,h0⟩)
 clear ht hl h0
 go_enter Tryd.func8,Tryd.ntmps8
 go_wp2_with fail
 go_loopw [5,7,8] (fun o i _ wr=>∃ (k:Nat) (Ao:Option Addr) (co:Nat) (css:List (List Value)),k<=most/\k<=l.length/\i=.int .i64 k/\o=.slice Ao (Scu.reqsOf (l.take k)).1.length co/\ReqI w B (.slice Al l.length cl) l w.heap.size (Scu.reqsOf (l.take k)).2 (Scu.reqsOf (l.take k)).1 (.slice Ao (Scu.reqsOf (l.take k)).1.length co) css wr) (fun _ i _ _=>most - (intOf i).toNat)
 case atStart=>exact ⟨0,none,0,[],mE _,mE _,rfl,rfl,HI.out⟩
 case round =>
  obtain ⟨k,Ao,co,css,Kl,Kt,rfl,rfl,hI⟩:=hrel
  obtain ⟨qs,nx,Ho⟩:∃ qs nx,Scu.reqsOf (l.take k)=(qs,nx):=⟨_,_,rfl⟩
  have Hp:=Scu.reqs_ok (l.take k)
  rw [Ho] at hI Hp ⊢
  dsimp only at hI ⊢
  have Hr:=hB
  by_cases hlt:k < l.length
  ·by_cases hlm:k < most
   ·have Hy:(k:Int) < (l.length:Int):=by omega
    have Hz:(k:Int) < (most:Int):=by omega
    obtain ⟨gl,ol,cl',e,Ku,_,Kh⟩:=zFp hI.raws hlt
    obtain rfl:Al=some ⟨gl,ol,none⟩:=by cases e;rfl
    clear e cl'
    have c1:wr.cell? ⟨gl,ol+k*4+1,none⟩=some (.int .i64 l[k].a):=hI.raws.cell_at hlt 1 (by decide)
    have c3:wr.cell? ⟨gl,ol+k*4+3,none⟩=some (.int .i64 l[k].c):=hI.raws.cell_at hlt 3 (by decide)
    obtain ⟨p,hp⟩:=mK (Scu.picked l[k].c 4)
    have Hk:=Scu.picked_lt (n:=l[k].c) (many:=4) (by decide)
    rw [hp] at Hk
    have Kv:=Hk.1
    have Kw:=Hk.2
    have Ka:nx.length=5:=Hp.five
    have Kb:(l.take k).length=k:=by rw [List.length_take];omega
    have Hh:=Hp.nums _ (Scu.getD_mem (l:=nx) (n:=(1+p).toNat) (d:=0) (by omega))
    have Km:qs.length<=1000:=by have h:qs.length=(l.take k).length:=Hp.len;rw [Kb] at h;omega
    rw [Kb] at Hh
    obtain ⟨nv,Hv⟩:=mK (nx.getD (1+p).toNat 0)
    rw [Hv] at Hh
    have Kn:=Hh.1
    have Ko:=Hh.2
    have cn:wr.cell? ⟨w.heap.size,(1+p).toNat,none⟩=some (.int .i64 nv):=by rw [hI.nxt.cell,<- Hv];exact zBl Ka (by omega)
    have cz:=hI.nxt.frozen
    have Hq:=mA hI
    have Kc:=mA Ho
    have HP:=mA hp
    have Hw:=mA Hv
    have Hs:=mA Kh
    have Kd:=mA Ka
    have Kp:=hI.nxt.lt
    clear hI Ho hp Hk Hp Hh Hv Kh Kb Ka
    go_wp2_with fail
    refine (zAy _ _ Hs.out.2.2.2 (by decide) (by decide) _).mono ?_;rintro e w' ⟨rfl,rfl⟩
    rw [HP.out]
    by_cases hz:nv=0
    ·have Kq:(nv == 0)=true:=by simpa using hz
     obtain ⟨nx',Hb⟩:=mK (nx.set (1+p).toNat (nv+1))
     have Hc:nx'.length=5:=by rw [<- Hb,List.length_set];exact Kd.out
     have Hf:=mA Hb
     have HZ:=mA hz
     clear Hb hz
     go_upto_region 9 with fail
     obtain ⟨Wn,Hi⟩:=mJ ((wr.setCell ⟨w.heap.size,(1+p).toNat,none⟩ (.int .i64 (nv+1))))
     rw [<- Hi]
     have HN:=mA (show ReqI w B (.slice (some ⟨gl,ol,none⟩) l.length cl) l w.heap.size nx' qs (.slice Ao qs.length co) css Wn from by rw [Hi];exact (by rw [<- Hf.out];exact Hq.out.setNext rfl Hr (by decide) _ _))
     clear Hi c1 c3 cn cz Hq
     obtain ⟨x,hx⟩:=mK (nx'.getD (1+p).toNat 0)
     have c0:Wn.cell? ⟨gl,ol+k*4,none⟩=some (.int .i64 l[k].kind):=HN.out.raws.cell_at hlt 0 (by decide)
     have c1:Wn.cell? ⟨gl,ol+k*4+1,none⟩=some (.int .i64 l[k].a):=HN.out.raws.cell_at hlt 1 (by decide)
     have c2:Wn.cell? ⟨gl,ol+k*4+2,none⟩=some (.int .i64 l[k].b):=HN.out.raws.cell_at hlt 2 (by decide)
     have c3:Wn.cell? ⟨gl,ol+k*4+3,none⟩=some (.int .i64 l[k].c):=HN.out.raws.cell_at hlt 3 (by decide)
     have cn:Wn.cell? ⟨w.heap.size,(1+p).toNat,none⟩=some (.int .i64 x):=by rw [HN.out.nxt.cell,<- hx];exact zBl Hc (by omega)
     have gll:gl < Wn.heap.size:=by obtain ⟨g',o',c',e,hg,_⟩:=zFp HN.out.raws hlt;cases e;exact hg
     have wll:w.heap.size < Wn.heap.size:=HN.out.nxt.lt
     obtain ⟨oq,Hl⟩:=mK (Scu.rawOp l[k])
     have Hm:=mA Hl
     clear Hl
     have Ki:(0:Int)<=1+p:=by omega
     have Kj:(1:Int)+p < 5:=by omega
     have HX:=mA hx
     have Ht:=mA Hc
     clear hx Hc
     go_wp2_with fail
     go_region_held3 (fun w'=>w'.cell? ⟨gl,ol+k*4,none⟩=some (.int .i64 l[k].kind)/\w'.cell? ⟨gl,ol+k*4+1,none⟩=some (.int .i64 l[k].a)/\w'.cell? ⟨gl,ol+k*4+2,none⟩=some (.int .i64 l[k].b)/\w'.cell? ⟨gl,ol+k*4+3,none⟩=some (.int .i64 l[k].c)/\w'.cell? ⟨w.heap.size,(1+p).toNat,none⟩=some (.int .i64 x))
      (first | (go_split_ands;(try dsimp only);(repeat' apply mB) <;> (with_reducible assumption)) | (go_split_ands;(try dsimp only);exact ⟨c0,c1,c2,c3,cn⟩) | (go_split_ands;(try dsimp only);exact ⟨f0,f1,f2,f3,fn⟩) | go_keep)
      (first
      | (go_at_call 21;refine (zMc l[k] Hs.out oq Hm.out _ ((HT.out.below HN.out.low).drewN 1)).mono ?_;rintro en x1 ⟨rfl,k1'⟩
         refine useK (P:=Below Wn.heap.size Wn x1) ?_ ?_
         exact (below_drewN (mG _ _) 1).trans k1'
         intro nn1
         have M1:=mA nn1
         have d0:=cW nn1 gll c0
         have d1:=cW nn1 gll c1
         have d2:=cW nn1 gll c2
         have d3:=cW nn1 gll c3
         have dn:=cW nn1 wll cn
         have He:=nn1.trans ((zAa x1 (.cells (reqV ⟨1+p,x,oq⟩).toArray 56)).mono nn1.size)
         have e0:=cW He gll c0
         have e1:=cW He gll c1
         have e2:=cW He gll c2
         have e3:=cW He gll c3
         have en:=cW He wll cn
         clear nn1 k1' He)
      | (refine zBw _ (by rfl) (.tmp 45) (.tmp 56) 36 (by rfl) zGj (w.heap.size+1) (.slice Ao qs.length co) qs.length css.flatten (by rfl) ?_ (.slice (some ⟨x1.heap.size,0,none⟩) 1 1) 1 (reqV ⟨1+p,x,oq⟩) (by rfl) (zFd (by rfl)) ?_ ?_ ?_ ?_ ?_
         ·exact zAi (zAi HN.out.out.row M1.out) (zAa x1 _)
         ·(intro v hv;simp only [reqV,List.mem_cons,List.not_mem_nil,or_false] at hv;rcases hv with rfl | rfl | rfl | rfl | rfl | rfl <;> rfl)
         ·(unfold maxLen;omega)
         ·omega
         ·(have:=HN.out.low.size;have:=M1.out.size;simp;omega)
         intro v4 x4 h4 Hn _
         have hP:=(HN.out.below M1.out).below (zAa x1 (.cells (reqV ⟨1+p,x,oq⟩).toArray 56))
         have Hd:=hP.push Hr (by unfold R47;omega) h4 Hn (by decide)
         have f0:x4.cell? ⟨gl,ol+k*4,none⟩=some (.int .i64 l[k].kind):=Hd.raws.cell_at hlt 0 (by decide)
         have f1:x4.cell? ⟨gl,ol+k*4+1,none⟩=some (.int .i64 l[k].a):=Hd.raws.cell_at hlt 1 (by decide)
         have f2:x4.cell? ⟨gl,ol+k*4+2,none⟩=some (.int .i64 l[k].b):=Hd.raws.cell_at hlt 2 (by decide)
         have f3:x4.cell? ⟨gl,ol+k*4+3,none⟩=some (.int .i64 l[k].c):=Hd.raws.cell_at hlt 3 (by decide)
         have fn:x4.cell? ⟨w.heap.size,(1+p).toNat,none⟩=some (.int .i64 x):=by rw [Hd.nxt.cell,<- HX.out];exact zBl Ht.out (by omega)
         obtain ⟨A9,c9,rfl,_,_,_,_⟩:=zAk h4
         have Hu:=mA Hd
         clear hP Hd h4 Hn)
      | fail)
     all_goals
      rename_i hHeld
      clear hHeld
      have Ha:Scu.reqsOf (l.take (k+1))=(qs ++ [⟨1+p,x,oq⟩],nx'):=by
       rw [zEi hlt,Kc.out]
       simp only [Scu.reqStep]
       rw [HP.out,(if_pos (.inl (by rw [Hw.out];exact HZ.out))),Hw.out,Hf.out,HX.out,Hm.out]
      have Hg:=mA Ha
      have Hj:=mA (show (Scu.reqsOf (l.take (k+1))).1.length=qs.length+1 by rw [Ha];simp)
      clear Ha c0 c1 c2 c3 cn d0 d1 d2 d3 dn e0 e1 e2 e3 en f0 f1 f2 f3 fn
      go_wp2_with fail
      go_roundw
      case rel=>exact ⟨k+1,A9,c9,_,by omega,by omega,rfl,by rw [Hj.out],by rw [Hg.out];simpa using Hu.out⟩
      case measure=>simp only [intOf];omega
    have Kq:(nv == 0)=false:=by simpa using hz
    have HZ:=mA hz
    clear hz
    obtain ⟨pa,Kk⟩:=mK (Scu.picked l[k].a 4)
    have Ke:=mA Kk
    clear Kk
    go_wp2_with fail
    refine (zAy _ _ Hs.out.2.1 (by decide) (by decide) _).mono ?_;rintro e w' ⟨rfl,rfl⟩
    rw [Ke.out]
    by_cases hg:0 < pa
    ·obtain ⟨nx',Hb⟩:=mK (nx.set (1+p).toNat (nv+1))
     have Hc:nx'.length=5:=by rw [<- Hb,List.length_set];exact Kd.out
     have Hf:=mA Hb
     clear Hb
     go_upto_region 9 with fail
     obtain ⟨Wn,Hi⟩:=mJ ((wr.setCell ⟨w.heap.size,(1+p).toNat,none⟩ (.int .i64 (nv+1))))
     rw [<- Hi]
     have HN:=mA (show ReqI w B (.slice (some ⟨gl,ol,none⟩) l.length cl) l w.heap.size nx' qs (.slice Ao qs.length co) css Wn from by rw [Hi];exact (by rw [<- Hf.out];exact Hq.out.setNext rfl Hr (by decide) _ _))
     clear Hi c1 c3 cn cz Hq
     obtain ⟨x,hx⟩:=mK (nx'.getD (1+p).toNat 0)
     have c0:Wn.cell? ⟨gl,ol+k*4,none⟩=some (.int .i64 l[k].kind):=HN.out.raws.cell_at hlt 0 (by decide)
     have c1:Wn.cell? ⟨gl,ol+k*4+1,none⟩=some (.int .i64 l[k].a):=HN.out.raws.cell_at hlt 1 (by decide)
     have c2:Wn.cell? ⟨gl,ol+k*4+2,none⟩=some (.int .i64 l[k].b):=HN.out.raws.cell_at hlt 2 (by decide)
     have c3:Wn.cell? ⟨gl,ol+k*4+3,none⟩=some (.int .i64 l[k].c):=HN.out.raws.cell_at hlt 3 (by decide)
     have cn:Wn.cell? ⟨w.heap.size,(1+p).toNat,none⟩=some (.int .i64 x):=by rw [HN.out.nxt.cell,<- hx];exact zBl Hc (by omega)
     have gll:gl < Wn.heap.size:=by obtain ⟨g',o',c',e,hg,_⟩:=zFp HN.out.raws hlt;cases e;exact hg
     have wll:w.heap.size < Wn.heap.size:=HN.out.nxt.lt
     obtain ⟨oq,Hl⟩:=mK (Scu.rawOp l[k])
     have Hm:=mA Hl
     clear Hl
     have Ki:(0:Int)<=1+p:=by omega
     have Kj:(1:Int)+p < 5:=by omega
     have HX:=mA hx
     have Ht:=mA Hc
     clear hx Hc
     go_wp2_with fail
     go_region_held3 (fun w'=>w'.cell? ⟨gl,ol+k*4,none⟩=some (.int .i64 l[k].kind)/\w'.cell? ⟨gl,ol+k*4+1,none⟩=some (.int .i64 l[k].a)/\w'.cell? ⟨gl,ol+k*4+2,none⟩=some (.int .i64 l[k].b)/\w'.cell? ⟨gl,ol+k*4+3,none⟩=some (.int .i64 l[k].c)/\w'.cell? ⟨w.heap.size,(1+p).toNat,none⟩=some (.int .i64 x))
      (first | (go_split_ands;(try dsimp only);(repeat' apply mB) <;> (with_reducible assumption)) | (go_split_ands;(try dsimp only);exact ⟨c0,c1,c2,c3,cn⟩) | (go_split_ands;(try dsimp only);exact ⟨f0,f1,f2,f3,fn⟩) | go_keep)
      (first
      | (go_at_call 21;refine (zMc l[k] Hs.out oq Hm.out _ ((HT.out.below HN.out.low).drewN 1)).mono ?_;rintro en x1 ⟨rfl,k1'⟩
         refine useK (P:=Below Wn.heap.size Wn x1) ?_ ?_
         exact (below_drewN (mG _ _) 1).trans k1'
         intro nn1
         have M1:=mA nn1
         have d0:=cW nn1 gll c0
         have d1:=cW nn1 gll c1
         have d2:=cW nn1 gll c2
         have d3:=cW nn1 gll c3
         have dn:=cW nn1 wll cn
         have He:=nn1.trans ((zAa x1 (.cells (reqV ⟨1+p,x,oq⟩).toArray 56)).mono nn1.size)
         have e0:=cW He gll c0
         have e1:=cW He gll c1
         have e2:=cW He gll c2
         have e3:=cW He gll c3
         have en:=cW He wll cn
         clear nn1 k1' He)
      | (refine zBw _ (by rfl) (.tmp 45) (.tmp 56) 36 (by rfl) zGj (w.heap.size+1) (.slice Ao qs.length co) qs.length css.flatten (by rfl) ?_ (.slice (some ⟨x1.heap.size,0,none⟩) 1 1) 1 (reqV ⟨1+p,x,oq⟩) (by rfl) (zFd (by rfl)) ?_ ?_ ?_ ?_ ?_
         ·exact zAi (zAi HN.out.out.row M1.out) (zAa x1 _)
         ·(intro v hv;simp only [reqV,List.mem_cons,List.not_mem_nil,or_false] at hv;rcases hv with rfl | rfl | rfl | rfl | rfl | rfl <;> rfl)
         ·(unfold maxLen;omega)
         ·omega
         ·(have:=HN.out.low.size;have:=M1.out.size;simp;omega)
         intro v4 x4 h4 Hn _
         have hP:=(HN.out.below M1.out).below (zAa x1 (.cells (reqV ⟨1+p,x,oq⟩).toArray 56))
         have Hd:=hP.push Hr (by unfold R47;omega) h4 Hn (by decide)
         have f0:x4.cell? ⟨gl,ol+k*4,none⟩=some (.int .i64 l[k].kind):=Hd.raws.cell_at hlt 0 (by decide)
         have f1:x4.cell? ⟨gl,ol+k*4+1,none⟩=some (.int .i64 l[k].a):=Hd.raws.cell_at hlt 1 (by decide)
         have f2:x4.cell? ⟨gl,ol+k*4+2,none⟩=some (.int .i64 l[k].b):=Hd.raws.cell_at hlt 2 (by decide)
         have f3:x4.cell? ⟨gl,ol+k*4+3,none⟩=some (.int .i64 l[k].c):=Hd.raws.cell_at hlt 3 (by decide)
         have fn:x4.cell? ⟨w.heap.size,(1+p).toNat,none⟩=some (.int .i64 x):=by rw [Hd.nxt.cell,<- HX.out];exact zBl Ht.out (by omega)
         obtain ⟨A9,c9,rfl,_,_,_,_⟩:=zAk h4
         have Hu:=mA Hd
         clear hP Hd h4 Hn)
      | fail)
     all_goals
      rename_i hHeld
      clear hHeld
      have Ha:Scu.reqsOf (l.take (k+1))=(qs ++ [⟨1+p,x,oq⟩],nx'):=by
       rw [zEi hlt,Kc.out]
       simp only [Scu.reqStep]
       rw [HP.out,(if_pos (.inr (by rw [Ke.out];exact hg))),Hw.out,Hf.out,HX.out,Hm.out]
      have Hg:=mA Ha
      have Hj:=mA (show (Scu.reqsOf (l.take (k+1))).1.length=qs.length+1 by rw [Ha];simp)
      clear Ha c0 c1 c2 c3 cn d0 d1 d2 d3 dn e0 e1 e2 e3 en f0 f1 f2 f3 fn
      go_wp2_with fail
      go_roundw
      case rel=>exact ⟨k+1,A9,c9,_,by omega,by omega,rfl,by rw [Hj.out],by rw [Hg.out];simpa using Hu.out⟩
      case measure=>simp only [intOf];omega
    obtain ⟨nx',Hb⟩:=mK (nx)
    have Hc:nx'.length=5:=by rw [<- Hb];exact Kd.out
    have Hf:=mA Hb
    clear Hb
    have Kr:¬ 0 < pa:=hg
    have HG:=mA Kr
    go_upto_region 9 with fail
    obtain ⟨Wn,Hi⟩:=mJ (wr)
    rw [<- Hi]
    have HN:=mA (show ReqI w B (.slice (some ⟨gl,ol,none⟩) l.length cl) l w.heap.size nx' qs (.slice Ao qs.length co) css Wn from by rw [Hi];exact (by rw [<- Hf.out];exact Hq.out))
    clear Hi c1 c3 cn cz Hq
    obtain ⟨x,hx⟩:=mK (nx'.getD (1+p).toNat 0)
    have c0:Wn.cell? ⟨gl,ol+k*4,none⟩=some (.int .i64 l[k].kind):=HN.out.raws.cell_at hlt 0 (by decide)
    have c1:Wn.cell? ⟨gl,ol+k*4+1,none⟩=some (.int .i64 l[k].a):=HN.out.raws.cell_at hlt 1 (by decide)
    have c2:Wn.cell? ⟨gl,ol+k*4+2,none⟩=some (.int .i64 l[k].b):=HN.out.raws.cell_at hlt 2 (by decide)
    have c3:Wn.cell? ⟨gl,ol+k*4+3,none⟩=some (.int .i64 l[k].c):=HN.out.raws.cell_at hlt 3 (by decide)
    have cn:Wn.cell? ⟨w.heap.size,(1+p).toNat,none⟩=some (.int .i64 x):=by rw [HN.out.nxt.cell,<- hx];exact zBl Hc (by omega)
    have gll:gl < Wn.heap.size:=by obtain ⟨g',o',c',e,hg,_⟩:=zFp HN.out.raws hlt;cases e;exact hg
    have wll:w.heap.size < Wn.heap.size:=HN.out.nxt.lt
    obtain ⟨oq,Hl⟩:=mK (Scu.rawOp l[k])
    have Hm:=mA Hl
    clear Hl
    have Ki:(0:Int)<=1+p:=by omega
    have Kj:(1:Int)+p < 5:=by omega
    have HX:=mA hx
    have Ht:=mA Hc
    clear hx Hc
    go_wp2_with fail
    go_region_held3 (fun w'=>w'.cell? ⟨gl,ol+k*4,none⟩=some (.int .i64 l[k].kind)/\w'.cell? ⟨gl,ol+k*4+1,none⟩=some (.int .i64 l[k].a)/\w'.cell? ⟨gl,ol+k*4+2,none⟩=some (.int .i64 l[k].b)/\w'.cell? ⟨gl,ol+k*4+3,none⟩=some (.int .i64 l[k].c)/\w'.cell? ⟨w.heap.size,(1+p).toNat,none⟩=some (.int .i64 x))
     (first | (go_split_ands;(try dsimp only);(repeat' apply mB) <;> (with_reducible assumption)) | (go_split_ands;(try dsimp only);exact ⟨c0,c1,c2,c3,cn⟩) | (go_split_ands;(try dsimp only);exact ⟨f0,f1,f2,f3,fn⟩) | go_keep)
     (first
     | (go_at_call 21;refine (zMc l[k] Hs.out oq Hm.out _ ((HT.out.below HN.out.low).drewN 1)).mono ?_;rintro en x1 ⟨rfl,k1'⟩
        refine useK (P:=Below Wn.heap.size Wn x1) ?_ ?_
        exact (below_drewN (mG _ _) 1).trans k1'
        intro nn1
        have M1:=mA nn1
        have d0:=cW nn1 gll c0
        have d1:=cW nn1 gll c1
        have d2:=cW nn1 gll c2
        have d3:=cW nn1 gll c3
        have dn:=cW nn1 wll cn
        have He:=nn1.trans ((zAa x1 (.cells (reqV ⟨1+p,x,oq⟩).toArray 56)).mono nn1.size)
        have e0:=cW He gll c0
        have e1:=cW He gll c1
        have e2:=cW He gll c2
        have e3:=cW He gll c3
        have en:=cW He wll cn
        clear nn1 k1' He)
     | (refine zBw _ (by rfl) (.tmp 45) (.tmp 56) 36 (by rfl) zGj (w.heap.size+1) (.slice Ao qs.length co) qs.length css.flatten (by rfl) ?_ (.slice (some ⟨x1.heap.size,0,none⟩) 1 1) 1 (reqV ⟨1+p,x,oq⟩) (by rfl) (zFd (by rfl)) ?_ ?_ ?_ ?_ ?_
        ·exact zAi (zAi HN.out.out.row M1.out) (zAa x1 _)
        ·(intro v hv;simp only [reqV,List.mem_cons,List.not_mem_nil,or_false] at hv;rcases hv with rfl | rfl | rfl | rfl | rfl | rfl <;> rfl)
        ·(unfold maxLen;omega)
        ·omega
        ·(have:=HN.out.low.size;have:=M1.out.size;simp;omega)
        intro v4 x4 h4 Hn _
        have hP:=(HN.out.below M1.out).below (zAa x1 (.cells (reqV ⟨1+p,x,oq⟩).toArray 56))
        have Hd:=hP.push Hr (by unfold R47;omega) h4 Hn (by decide)
        have f0:x4.cell? ⟨gl,ol+k*4,none⟩=some (.int .i64 l[k].kind):=Hd.raws.cell_at hlt 0 (by decide)
        have f1:x4.cell? ⟨gl,ol+k*4+1,none⟩=some (.int .i64 l[k].a):=Hd.raws.cell_at hlt 1 (by decide)
        have f2:x4.cell? ⟨gl,ol+k*4+2,none⟩=some (.int .i64 l[k].b):=Hd.raws.cell_at hlt 2 (by decide)
        have f3:x4.cell? ⟨gl,ol+k*4+3,none⟩=some (.int .i64 l[k].c):=Hd.raws.cell_at hlt 3 (by decide)
        have fn:x4.cell? ⟨w.heap.size,(1+p).toNat,none⟩=some (.int .i64 x):=by rw [Hd.nxt.cell,<- HX.out];exact zBl Ht.out (by omega)
        obtain ⟨A9,c9,rfl,_,_,_,_⟩:=zAk h4
        have Hu:=mA Hd
        clear hP Hd h4 Hn)
     | fail)
    all_goals
     rename_i hHeld
     clear hHeld
     have Ha:Scu.reqsOf (l.take (k+1))=(qs ++ [⟨1+p,x,oq⟩],nx'):=by
      rw [zEi hlt,Kc.out]
      simp only [Scu.reqStep]
      rw [HP.out,(if_neg (by rw [Hw.out,Ke.out];exact fun h=>h.elim HZ.out (fun h2=>absurd h2 (Int.not_lt.2 HG.out)))),Hf.out,HX.out,Hm.out]
     have Hg:=mA Ha
     have Hj:=mA (show (Scu.reqsOf (l.take (k+1))).1.length=qs.length+1 by rw [Ha];simp)
     clear Ha c0 c1 c2 c3 cn d0 d1 d2 d3 dn e0 e1 e2 e3 en f0 f1 f2 f3 fn
     go_wp2_with fail
     go_roundw
     case rel=>exact ⟨k+1,A9,c9,_,by omega,by omega,rfl,by rw [Hj.out],by rw [Hg.out];simpa using Hu.out⟩
     case measure=>simp only [intOf];omega
   have Kf:k=most:=by omega
   have HF:=mA (mB hI Ho)
   clear hI Ho Hp
   have Hy:(k:Int) < (l.length:Int):=by omega
   have Hz:¬ (k:Int) < (most:Int):=by omega
   subst Kf
   go_wp2
   go_ret
   have e1:Scu.requests l k=qs:=by unfold Scu.requests;rw [HF.out.2]
   rw [e1]
   first | exact ⟨⟨_,_,rfl,css,HF.out.1.out.base_ (Nat.le_succ _)⟩,HF.out.1.low⟩ | exact ⟨⟨_,_,css,rfl,HF.out.1.out.base_ (Nat.le_succ _)⟩,HF.out.1.low⟩
  have Kg:k=l.length:=by omega
  have HF:=mA (mB hI Ho)
  clear hI Ho Hp
  subst Kg
  go_wp2
  go_ret
  have e1:Scu.requests l most=qs:=by unfold Scu.requests;rw [List.take_of_length_le Kl,<- List.take_of_length_le (mC l.length),HF.out.2]
  rw [e1]
  first | exact ⟨⟨_,_,rfl,css,HF.out.1.out.base_ (Nat.le_succ _)⟩,HF.out.1.low⟩ | exact ⟨⟨_,_,css,rfl,HF.out.1.out.base_ (Nat.le_succ _)⟩,HF.out.1.low⟩
def IsReqs (w:World) (B:Nat) (v:Value) (l:List Scu.Request):Prop:=IsRow 56 6 56 ReqE w B v l
theorem zKy {w:World} {B:Nat} {v:Value} {l:List Scu.Request} (h:IsReqs w B v l) {k:Nat} (hk:k < l.length) :
 ∃ g o c,v=.slice (some ⟨g,o,none⟩) l.length c/\g < w.heap.size/\(∀ j u,(reqV l[k])[j]? = some u->w.cell? ⟨g,o+(k*6+j),none⟩=some u):=by
 obtain ⟨⟨A,c,css,rfl,hc,hl,hm,hr,h6⟩,_⟩:=h
 obtain ⟨g,o,cs,rfl,hg,_,Ha,rfl⟩:=zCo hl hm (by omega) hr h6 hk
 exact ⟨g,o,c,rfl,hg,Ha⟩
theorem IsReqs.cell_at {w:World} {B g o c:Nat} {l:List Scu.Request} (h:IsReqs w B (.slice (some ⟨g,o,none⟩) l.length c) l) {k:Nat} (hk:k < l.length) (j:Nat) (hj:j < 6):w.cell? ⟨g,o+k*6+j,none⟩=(reqV l[k])[j]?:=by
 obtain ⟨g',o',c',e,_,hc⟩:=zKy h hk
 cases e
 have hl:(reqV l[k])[j]? = some ((reqV l[k])[j]'(by simpa [reqV] using hj)):=mH _
 rw [hl,Nat.add_assoc]
 exact hc j _ hl
theorem IsReqs.below {w w':World} {B:Nat} {v:Value} {l:List Scu.Request} (h:IsReqs w B v l) (hb:Below w.heap.size w w'):IsReqs w' B v l :=
 IsRow.same h (Ts:=[56]) (by simp) (Same.below hb) (fun _ _ h=>h)
theorem zKm (q:Scu.Request) (h:Scu.reqFault q=0) (w:World) :
 Calls Tryd.prog 20 #[.agg #[.int .i64 q.client,.int .i64 q.num,.int .i64 q.op.kind,.int .i64 q.op.at_,.int .i64 q.op.snap,.string q.op.data]] w fun e w' =>
  e=.returned (.tuple #[.string (Scu.reqBytes q),.int .i64 0])/\Below w.heap.size w w':=by
 have:=zJi q w
 rw [Scu.encode_ok h] at this
 exact this
theorem zKn (v u:Value) (xs ys:List Scu.Str) (w:World) (B B':Nat) (hv:IsStrs w B v xs) (hu:IsStrs w B' u ys) :
 Calls Tryd.prog 16 #[v,u] w fun e w'=>e=.returned (.bool (decide (xs=ys)))/\∃ n,w'=w.drewN n:=by
 obtain ⟨⟨A,c,rfl,_,hr⟩,hl,_⟩:=hv
 obtain ⟨⟨A',c',rfl,_,He⟩,Hf,_⟩:=hu
 unfold R47 at hl Hf
 by_cases he:xs.length=ys.length
 ·have Hg:((xs.length:Int) != (ys.length:Int))=false:=by simp [he]
  have HE:=mA he
  clear he
  go_enter Tryd.func16,Tryd.ntmps16
  go_wp2
  go_loopw [13] (fun i wr=>∃ k:Nat,k<=xs.length/\i=.int .i64 k/\Hid (xs.take k=ys.take k)/\∃ n,wr=w.drewN n) (fun i _=>xs.length - (intOf i).toNat)
  case atStart=>exact ⟨0,mE _,rfl,rfl,0,rfl⟩
  case round =>
   obtain ⟨k,hk,rfl,ht,n,rfl⟩:=hrel
   by_cases Hb:k < xs.length
   ·have Hc:(k:Int) < (xs.length:Int):=by omega
    have hy:k < ys.length:=by have:=HE.out;omega
    have Hk:(k:Int) < (ys.length:Int):=by omega
    obtain ⟨g,o,rfl,_,hc⟩:=zEz hr Hb
    obtain ⟨g',o',rfl,_,Hl⟩:=zEz He hy
    by_cases hx:xs[k]=ys[k]
    ·have hb:(xs[k].toList == ys[k].toList)=true:=by rw [zHv];simp [hx]
     have HX:=mA hx
     clear hx
     go_wp2
     go_quiet (fail)
     go_wp2
     exact ⟨⟨k+1,Hb,by go_num,zFn ht.out Hb hy HX.out,_,rfl⟩,by simp only [intOf];omega⟩
    have hb:(xs[k].toList == ys[k].toList)=false:=by rw [zHv];simp [hx]
    have Ha:decide (xs=ys)=false:=by
     rw [decide_eq_false_iff_not]
     intro e
     subst e
     exact hx rfl
    have Hh:=mA Ha
    clear Ha
    go_wp2
    go_quiet (fail)
    go_wp2
    go_ret
    exact ⟨zAb (zCb Hh.out.symm),_,World.drewN_drewN _ _ _⟩
   have Hi:k=xs.length:=by omega
   have Hc:(xs.length:Int)<=(k:Int):=by omega
   have Hd:decide (xs=ys)=true:=by
    rw [decide_eq_true_eq]
    have h1:=ht.out
    rw [List.take_of_length_le (by omega),List.take_of_length_le (by have:=HE.out;omega)] at h1
    exact h1
   have Hj:=mA Hd
   clear Hi Hd
   go_wp2
   go_ret
   exact ⟨zAb (zCb Hj.out.symm),_,rfl⟩
 have Hg:((xs.length:Int) != (ys.length:Int))=true:=by
  rw [bne_iff_ne];omega
 have Ha:decide (xs=ys)=false:=by
  rw [decide_eq_false_iff_not]
  intro e
  exact he (by rw [e])
 rw [Ha]
 clear he
 go_enter Tryd.func16,Tryd.ntmps16
 go_wp2
 go_ret
 exact ⟨rfl,0,rfl⟩
theorem zGk {w:World} {base:Nat} {v:Value} {xs:List Scu.Str} {n:Nat} (h:w.ownsRow base 9 1 v n (xs.map Value.string)) (hn:n=xs.length) (hl:xs.length*16<=R47) (he:∀ s ∈ xs,s.size<=R47):IsStrs w 0 v xs:=by
 subst hn
 obtain ⟨A,c,rfl,hc,_,hr,_⟩:=zAk h
 exact ⟨⟨A,c,rfl,hc,hr⟩,hl,he⟩
theorem zKo {w:World} {t:TypeId} {u:Value} : Src1 (w.alloc (.cells #[u] t)) 1 (.slice (some ⟨w.heap.size,0,none⟩) 1 1) 1 [u]:=zFd (cs:=[u]) rfl
theorem zFv (v:Value) (qs:List Scu.Request) (w:World) (hq:IsReqs w 0 v qs) (Hk:∀ q ∈ qs,Scu.reqFault q=0) (hl:qs.length<=1000) :
 Calls Tryd.prog 7 #[v] w fun e w'=>(∃ A c,e=.returned (.slice A (Scu.entries qs).length c)/\IsStrs w' 0 (.slice A (Scu.entries qs).length c) (Scu.entries qs))/\Below w.heap.size w w':=by
 obtain ⟨A,c,rfl⟩:∃ A c,v=.slice A qs.length c:=by obtain ⟨A,c,_,e,_⟩:=hq.ex;exact ⟨A,c,e⟩
 have HQ:=mA hq
 have Hl:=mA Hk
 have HZ:=mA (show w.ownsRow w.heap.size 9 1 (.slice none 0 0) 0 [] from World.ownsRow_nil _ _ _ _)
 clear hq Hk
 go_enter Tryd.func7,Tryd.ntmps7
 go_wp2_with fail
 go_loopw [3,10] (fun ov i wr=>∃ (k:Nat) (Ao:Option Addr) (co:Nat),k<=qs.length/\i=.int .i64 k/\ov=.slice Ao k co/\Hid (wr.ownsRow w.heap.size 9 1 (.slice Ao k co) k ((Scu.entries (qs.take k)).map Value.string))/\Hid (IsReqs wr 0 (.slice A qs.length c) qs)/\Hid (Below w.heap.size w wr)) (fun _ i _=>qs.length - (intOf i).toNat)
 case atStart=>exact ⟨0,none,0,mE _,rfl,rfl,HZ,HQ,mA (mG _ _)⟩
 case round =>
  obtain ⟨k,Ao,co,hk,rfl,rfl,HO,HI,HB⟩:=hrel
  by_cases Hc:k < qs.length
  ·have Hg:(k:Int) < (qs.length:Int):=by omega
   obtain ⟨g,o,c',e,hg,-⟩:=zKy HI.out Hc
   obtain rfl:A=some ⟨g,o,none⟩:=by cases e;rfl
   clear e c'
   obtain ⟨q,Hd⟩:=mK (qs[k])
   have hf:Scu.reqFault q=0:=by rw [<- Hd];exact Hl.out _ (List.getElem_mem _)
   have hc:∀ j u,(reqV q)[j]? = some u->j < 6->wr.cell? ⟨g,o+k*6+j,none⟩=some u:=fun j u h hj=>by rw [HI.out.cell_at Hc j hj,Hd,h]
   have c0:wr.cell? ⟨g,o+k*6,none⟩=some (.int .i64 q.client):=hc 0 _ rfl (by decide)
   have c1:wr.cell? ⟨g,o+k*6+1,none⟩=some (.int .i64 q.num):=hc 1 _ rfl (by decide)
   have c2:wr.cell? ⟨g,o+k*6+2,none⟩=some (.int .i64 q.op.kind):=hc 2 _ rfl (by decide)
   have c3:wr.cell? ⟨g,o+k*6+3,none⟩=some (.int .i64 q.op.at_):=hc 3 _ rfl (by decide)
   have c4:wr.cell? ⟨g,o+k*6+4,none⟩=some (.int .i64 q.op.snap):=hc 4 _ rfl (by decide)
   have c5:wr.cell? ⟨g,o+k*6+5,none⟩=some (.string q.op.data):=hc 5 _ rfl (by decide)
   have HF:=mA hf
   have Hr:=mA Hd
   clear hf Hd hc
   go_upto_region 5 with fail
   obtain ⟨Wd,He⟩:=mJ (wr.alloc (.cells (reqV q).toArray 56))
   rw [show wr.alloc (.cells #[.int .i64 q.client,.int .i64 q.num,.int .i64 q.op.kind,.int .i64 q.op.at_,.int .i64 q.op.snap,.string q.op.data] 56)=Wd from He.symm]
   have Ha:Blk Wd wr.heap.size 56 (reqV q).toArray:=by rw [He];exact Blk.new _ _ _
   have Hm:Below wr.heap.size wr Wd:=by rw [He];exact zAa _ _
   clear He c0 c1 c2 c3 c4 c5
   have d0:Wd.cell? ⟨wr.heap.size,0,none⟩=some (.int .i64 q.client):=Ha.cell 0
   have d1:Wd.cell? ⟨wr.heap.size,1,none⟩=some (.int .i64 q.num):=Ha.cell 1
   have d2:Wd.cell? ⟨wr.heap.size,2,none⟩=some (.int .i64 q.op.kind):=Ha.cell 2
   have d3:Wd.cell? ⟨wr.heap.size,3,none⟩=some (.int .i64 q.op.at_):=Ha.cell 3
   have d4:Wd.cell? ⟨wr.heap.size,4,none⟩=some (.int .i64 q.op.snap):=Ha.cell 4
   have d5:Wd.cell? ⟨wr.heap.size,5,none⟩=some (.string q.op.data):=Ha.cell 5
   have Hn:=mA Hm
   clear Ha Hm
   go_wp2_with fail
   refine (zKm q HF.out _).mono ?_;rintro e w2 ⟨rfl,b2⟩
   obtain ⟨s,hs⟩:=mK (Scu.reqBytes q)
   rw [hs]
   have HS:=mA hs
   have Hf:=Hn.out.trans (b2.mono Hn.out.size)
   have Ho:=mA Hf
   have Hh:=mA (zAi HO.out Hf)
   have Hs:=HB.out.size
   have Ht:=Hf.size
   clear hs Hf b2 d0 d1 d2 d3 d4 d5
   go_wp2_with (at_builtin;refine zDn _ rfl (.tmp 21) (.tmp 23) 23 rfl zFa w.heap.size (.slice Ao k co) k ((Scu.entries (qs.take k)).map Value.string) rfl (zAi Hh.out (zAa _ _)) (.slice (some ⟨w2.heap.size,0,none⟩) 1 1) 1 [.string s] rfl zKo (fun u hu=>by simp only [List.mem_cons,List.not_mem_nil,or_false] at hu;subst hu;rfl) (by unfold maxLen;omega) (by omega) (by simp only [World.size_alloc];omega) ?_)
   intro v4 x4 h4 Hi _
   obtain ⟨A9,c9,rfl,_,_,_,_⟩:=zAk h4
   have Hp:Below w.heap.size w x4:=((HB.out.trans (Ho.out.mono HB.out.size)).trans ((zAa w2 _).mono (by omega))).grown Hi (by simp only [World.size_alloc];omega) (fun g hg=>((Hh.out.lt) g hg).1)
   have Hq:IsReqs x4 0 (.slice (some ⟨g,o,none⟩) qs.length c) qs :=
    IsRow.same ((HI.out.below Ho.out).below (zAa w2 _)) (Ts:=[56]) (by simp) (Same.own (zAi Hh.out (zAa w2 _)) Hi (mE _) (by decide)) (fun _ _ h=>h)
   have Hb:(Scu.entries (qs.take k)).map Value.string ++ [Value.string s]=(Scu.entries (qs.take (k+1))).map Value.string:=by
    rw [List.take_succ_eq_append_getElem Hc,Scu.entries_snoc,Hr.out,HS.out,List.map_append]
    rfl
   rw [Hb] at h4
   have H4:=mA h4
   have Hu:=mA Hq
   have Hv:=mA Hp
   clear Hb h4 Hq Hp Hi
   go_wp2
   exact ⟨⟨k+1,_,_,Hc,by go_num,rfl,H4,Hu,Hv⟩,by simp only [intOf];omega⟩
  have Hj:k=qs.length:=by omega
  have Hg:¬ (k:Int) < (qs.length:Int):=by omega
  subst Hj
  go_wp2
  go_ret
  have e1:Scu.entries (qs.take qs.length)=Scu.entries qs:=by rw [List.take_length]
  rw [e1] at HO
  rw [Scu.entries_length]
  exact ⟨⟨_,_,rfl,zGk HO.out (Scu.entries_length _).symm (by rw [Scu.entries_length];unfold R47;omega) (fun s hs=>by
   unfold Scu.entries at hs
   obtain ⟨q,hq,rfl⟩:=List.mem_map.1 hs
   have:=Scu.reqBytes_size q
   have:=(Scu.opFault_ok (Scu.reqFault_ok (Hl.out q hq)).2.2.2.2).2.2.2.2.2.2.1
   unfold R47;omega)⟩,HB.out⟩
theorem IsMs.below {w w':World} {v:Value} {ms:List Scu.Message} (h:IsRow 43 8 80 MsgE w 0 v ms) (hb:Below w.heap.size w w'):IsRow 43 8 80 MsgE w' 0 v ms :=
 h.same (Ts:=[9,43]) (by simp) (Same.below hb) (fun _ _ h=>h.same (Ts:=[9]) (by simp) (Same.below hb))
theorem IsMs.keep {w w':World} {v:Value} {ms:List Scu.Message} (h:IsRow 43 8 80 MsgE w 0 v ms) (hs:Same [9,43] 0 w w'):IsRow 43 8 80 MsgE w' 0 v ms :=
 h.same (Ts:=[9,43]) (by simp) hs (fun _ _ h=>h.same (Ts:=[9,43]) (by simp) hs)
theorem zIu {w w':World} {rr:Scu.Replica} {ms:List Scu.Message} {f:Int} {e:Ending} (h:TellN w.heap.size w' rr ms f e) (hb:Below w.heap.size w w'):(∃ E0 m0 z0 E1 z1 E2 z2 E3 z3 E4 z4 Ao co,e=.returned (.tuple #[.agg #[.int .i64 rr.me,.int .i64 rr.kept.view,.int .i64 rr.kept.normal,.bool rr.kept.calm,.slice E0 m0 z0,.int .i64 rr.kept.commit,.slice E1 rr.have_.length z1,.slice E2 rr.wants.length z2,.slice E3 rr.gives.length z3,.slice E4 rr.given.length z4],.slice Ao ms.length co,.int .i64 f])/\IsRep w' 0 (.slice E0 m0 z0) (.slice E1 rr.have_.length z1) (.slice E2 rr.wants.length z2) (.slice E3 rr.gives.length z3) (.slice E4 rr.given.length z4) rr/\IsRow 43 8 80 MsgE w' 0 (.slice Ao ms.length co) ms/\∀ g,(Value.slice Ao ms.length co).ownBlock=some g->w.heap.size<=g)/\Below w.heap.size w w':=by
 obtain ⟨lu,hv,wv,gv,nv,ov,rfl,h1,h2,h3⟩:=h
 obtain ⟨E0,m0,z0,E1,z1,E2,z2,E3,z3,E4,z4,rfl,rfl,rfl,rfl,rfl⟩:=h1.forms
 obtain ⟨A,c,_,rfl,_⟩:=h2.ex
 exact ⟨⟨_,_,_,_,_,_,_,_,_,_,_,_,_,rfl,h1,h2,h3⟩,hb⟩
theorem zMd (lv hv wv gv nv:Value) (r:Scu.Replica) (w:World) (B:Nat) (hr:IsRep w B lv hv wv gv nv r) (rr:Scu.Replica) (ms:List Scu.Message) (f:Int) (h:Scu.alarm r=(rr,ms,f)) :
 Calls Tryd.prog 13 #[.agg #[.int .i64 r.me,.int .i64 r.kept.view,.int .i64 r.kept.normal,.bool r.kept.calm,lv,.int .i64 r.kept.commit,hv,wv,gv,nv]] w fun e w'=>(∃ E0 m0 z0 E1 z1 E2 z2 E3 z3 E4 z4 Ao co,e=.returned (.tuple #[.agg #[.int .i64 rr.me,.int .i64 rr.kept.view,.int .i64 rr.kept.normal,.bool rr.kept.calm,.slice E0 m0 z0,.int .i64 rr.kept.commit,.slice E1 rr.have_.length z1,.slice E2 rr.wants.length z2,.slice E3 rr.gives.length z3,.slice E4 rr.given.length z4],.slice Ao ms.length co,.int .i64 f])/\IsRep w' 0 (.slice E0 m0 z0) (.slice E1 rr.have_.length z1) (.slice E2 rr.wants.length z2) (.slice E3 rr.gives.length z3) (.slice E4 rr.given.length z4) rr/\IsRow 43 8 80 MsgE w' 0 (.slice Ao ms.length co) ms/\∀ g,(Value.slice Ao ms.length co).ownBlock=some g->w.heap.size<=g)/\Below w.heap.size w w':=by
 have:=zLv lv hv wv gv nv r w B hr
 rw [h] at this
 exact this.mono fun e w' ⟨h1,h2⟩=>zIu h1 h2
theorem zNe (lv hv wv gv nv:Value) (r:Scu.Replica) (s:Scu.Str) (hs:s.size<=R47) (w:World) (B:Nat) (hr:IsRep w B lv hv wv gv nv r) (rr:Scu.Replica) (ms:List Scu.Message) (f:Int) (h:Scu.take r s=(rr,ms,f)) :
 Calls Tryd.prog 9 #[.agg #[.int .i64 r.me,.int .i64 r.kept.view,.int .i64 r.kept.normal,.bool r.kept.calm,lv,.int .i64 r.kept.commit,hv,wv,gv,nv],.string s] w fun e w'=>(∃ E0 m0 z0 E1 z1 E2 z2 E3 z3 E4 z4 Ao co,e=.returned (.tuple #[.agg #[.int .i64 rr.me,.int .i64 rr.kept.view,.int .i64 rr.kept.normal,.bool rr.kept.calm,.slice E0 m0 z0,.int .i64 rr.kept.commit,.slice E1 rr.have_.length z1,.slice E2 rr.wants.length z2,.slice E3 rr.gives.length z3,.slice E4 rr.given.length z4],.slice Ao ms.length co,.int .i64 f])/\IsRep w' 0 (.slice E0 m0 z0) (.slice E1 rr.have_.length z1) (.slice E2 rr.wants.length z2) (.slice E3 rr.gives.length z3) (.slice E4 rr.given.length z4) rr/\IsRow 43 8 80 MsgE w' 0 (.slice Ao ms.length co) ms/\∀ g,(Value.slice Ao ms.length co).ownBlock=some g->w.heap.size<=g)/\Below w.heap.size w w':=by
 have:=zNb lv hv wv gv nv r s hs w B hr
 rw [h] at this
 exact this.mono fun e w' ⟨h1,h2⟩=>zIu h1 h2
theorem zFw (lv hv wv gv nv xv:Value) (r:Scu.Replica) (m:Scu.Message) (w:World) (B:Nat) (hr:IsRep w B lv hv wv gv nv r) (hx:IsStrs w B xv m.log) (rr:Scu.Replica) (ms:List Scu.Message) (f:Int) (h:Scu.hear r m=(rr,ms,f)) :
 Calls Tryd.prog 12 #[.agg #[.int .i64 r.me,.int .i64 r.kept.view,.int .i64 r.kept.normal,.bool r.kept.calm,lv,.int .i64 r.kept.commit,hv,wv,gv,nv],.agg #[.int .i64 m.kind,.int .i64 m.from_,.int .i64 m.tq,.int .i64 m.view,.int .i64 m.normal,.int .i64 m.commit,.int .i64 m.n,xv]] w fun e w'=>(∃ E0 m0 z0 E1 z1 E2 z2 E3 z3 E4 z4 Ao co,e=.returned (.tuple #[.agg #[.int .i64 rr.me,.int .i64 rr.kept.view,.int .i64 rr.kept.normal,.bool rr.kept.calm,.slice E0 m0 z0,.int .i64 rr.kept.commit,.slice E1 rr.have_.length z1,.slice E2 rr.wants.length z2,.slice E3 rr.gives.length z3,.slice E4 rr.given.length z4],.slice Ao ms.length co,.int .i64 f])/\IsRep w' 0 (.slice E0 m0 z0) (.slice E1 rr.have_.length z1) (.slice E2 rr.wants.length z2) (.slice E3 rr.gives.length z3) (.slice E4 rr.given.length z4) rr/\IsRow 43 8 80 MsgE w' 0 (.slice Ao ms.length co) ms/\∀ g,(Value.slice Ao ms.length co).ownBlock=some g->w.heap.size<=g)/\Below w.heap.size w w':=by
 have:=zNa lv hv wv gv nv xv r m w B hr hx
 rw [h] at this
 exact this.mono fun e w' ⟨h1,h2⟩=>zIu h1 h2
theorem zKz {P:Program} {ops:Array Oper} {Q:Exit->Act->World->Prop} {md:Region.Mode} {S:World->Prop} {i:Nat} {oi:Oper} {v:Value} {fuel:Nat} {listed:Array Bool} {a:Act} {w:World} (hi:ops.toList[i]? = some oi)
 (hs:Region.noSelect ops=true) (hf:Region.free md ops listed i=true) (hr:(Region.ready md ops listed).contains i=true)
 (hQ:∀ c a w,Q (.panic c) (a.put oi.dst v) w->Q (.panic c) a w) (hy:YieldsIf P ops S oi v a) (hS:S w)
 (h:wpAnyH P md ops Q S fuel (listed.setIfInBounds i true) (a.put oi.dst v) w):wpAnyH P md ops Q S (fuel+1) listed a w :=
 wpAnyH_take (by rw [<- Array.getElem?_toList];exact hi) hs hf hr hQ hy hS h
theorem zAs {w:World} {g n:Nat} {t:TypeId} {cs:Array Value} (h:Blk w g t cs) (hn:cs.size=n:=by rfl):w.there g 0 n:=fun j hj=>by
 rw [Nat.zero_add,h.cell]
 exact ⟨by simp [hn,hj],h.frozen j⟩
theorem zBe {Wd x1 X:World} {gb:Nat} {rr:Scu.Replica} {ms:List Scu.Message} {E0:Option Addr} {m0 z0:Nat} {E1:Option Addr} {z1:Nat} {E2:Option Addr} {z2:Nat} {E3:Option Addr} {z3:Nat} {E4:Option Addr} {z4:Nat} {ov:Value} {b0 b1 b2 b3 b4 b5 b6 b7 b8 b9:Value}
 (h1:IsRep x1 0 (.slice E0 m0 z0) (.slice E1 rr.have_.length z1) (.slice E2 rr.wants.length z2) (.slice E3 rr.gives.length z3) (.slice E4 rr.given.length z4) rr) (h2:IsRow 43 8 80 MsgE x1 0 ov ms)
 (hX:Below Wd.heap.size Wd X) (hB:Blk X gb 30 #[b0,b1,b2,b3,b4,b5,b6,b7,b8,b9]) (hg:Wd.heap.size<=gb) (hx:Below x1.heap.size x1 X) :
 Below Wd.heap.size Wd (X.setCells gb 0 [.int .i64 rr.me,.int .i64 rr.kept.view,.int .i64 rr.kept.normal,.bool rr.kept.calm,.slice E0 m0 z0,.int .i64 rr.kept.commit,.slice E1 rr.have_.length z1,.slice E2 rr.wants.length z2,.slice E3 rr.gives.length z3,.slice E4 rr.given.length z4])/\Blk (X.setCells gb 0 [.int .i64 rr.me,.int .i64 rr.kept.view,.int .i64 rr.kept.normal,.bool rr.kept.calm,.slice E0 m0 z0,.int .i64 rr.kept.commit,.slice E1 rr.have_.length z1,.slice E2 rr.wants.length z2,.slice E3 rr.gives.length z3,.slice E4 rr.given.length z4]) gb 30 #[.int .i64 rr.me,.int .i64 rr.kept.view,.int .i64 rr.kept.normal,.bool rr.kept.calm,.slice E0 m0 z0,.int .i64 rr.kept.commit,.slice E1 rr.have_.length z1,.slice E2 rr.wants.length z2,.slice E3 rr.gives.length z3,.slice E4 rr.given.length z4] /\
  IsRep (X.setCells gb 0 [.int .i64 rr.me,.int .i64 rr.kept.view,.int .i64 rr.kept.normal,.bool rr.kept.calm,.slice E0 m0 z0,.int .i64 rr.kept.commit,.slice E1 rr.have_.length z1,.slice E2 rr.wants.length z2,.slice E3 rr.gives.length z3,.slice E4 rr.given.length z4]) 0 (.slice E0 m0 z0) (.slice E1 rr.have_.length z1) (.slice E2 rr.wants.length z2) (.slice E3 rr.gives.length z3) (.slice E4 rr.given.length z4) rr/\IsRow 43 8 80 MsgE (X.setCells gb 0 [.int .i64 rr.me,.int .i64 rr.kept.view,.int .i64 rr.kept.normal,.bool rr.kept.calm,.slice E0 m0 z0,.int .i64 rr.kept.commit,.slice E1 rr.have_.length z1,.slice E2 rr.wants.length z2,.slice E3 rr.gives.length z3,.slice E4 rr.given.length z4]) 0 ov ms:=by
 have hs:Same [9,3,4,25,43] 0 X (X.setCells gb 0 (rL rr E0 m0 z0 E1 z1 E2 z2 E3 z3 E4 z4)):=Same.sets _ 0 X _ hB (by decide)
 exact ⟨zAl hg _ 0 _ _ hX,zGf (xs:=[b0,b1,b2,b3,b4,b5,b6,b7,b8,b9]) hB rfl,(h1.below hx).same (hs.mono (by simp) (mC _)),IsMs.keep (IsMs.below h2 hx) (hs.mono (by simp) (mC _))⟩
end Go.Proofs.YtjnjhmkgfjikfaaDoor
