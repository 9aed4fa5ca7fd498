/- Part 8: words and walks under the laws of the whole. -/
import Derived.Test.YtlngfbngnnepiaaGreatZZ7
set_option linter.unusedVariables false
set_option linter.unusedSimpArgs false
set_option maxHeartbeats 4000000
set_option maxRecDepth 100000
namespace Go.Proofs.YtlngfbngnnepiaaGreat
open Go.RowKit Go.ChangeShapes Go.WideShapes Go.ChangeAt
theorem zH2 {P:Prop} (h:P:=by
 clear HV;go_enter Tryz.func71,Tryz.ntmps71
 go_wp2_with (go_at_call 12;refine (zAt _ _ _ _).mono ?_;rintro e w1 ⟨rfl,rfl⟩;first | rw [U1.out] | rw [U2.out] | rw [U3.out] | rw [U4.out] | rw [U5.out])
 go_ret
 exact ⟨zAb (zAd HF.out.symm),zAa w _⟩):P:=h
theorem zI2 {P:Prop} (h:P:=by
 go_enter Tryz.func71,Tryz.ntmps71
 go_wp2_with (go_at_call 12;refine (zAt _ _ _ _).mono ?_;rintro e w1 ⟨rfl,rfl⟩;first | rw [U1.out] | rw [U2.out] | rw [U3.out] | rw [U4.out] | rw [U5.out])
 refine (zBw _ vi no false lo co _ B (HV.out.alloc _)).mono ?_;rintro e w1 ⟨rfl,h1⟩;go_wp2
 go_ret
 exact ⟨zAb (zAd HF.out.symm),zAf h1⟩):P:=h
theorem zJz (lv:Value) (ki fr tq vi no co n:Int) (lo:List Scu.Str) (w:World) (B:Nat) (hv:IsStrs w B lv lo) :
 Calls Tryz.prog 71 #[.agg #[.int .i64 ki,.int .i64 fr,.int .i64 tq,.int .i64 vi,.int .i64 no,.int .i64 co,.int .i64 n,lv]] w fun e w' =>
  e=.returned (.int .i64 (Scu.msgFault ⟨ki,fr,tq,vi,no,co,n,lo⟩))/\Below w.heap.size w w':=by
 have HV:=mA hv;obtain ⟨⟨A,c,rfl,_,hr⟩,hl,he⟩:=hv;unfold R47 at hl;clear hr he;cases t1:inB ki 1 4 with
 | false =>
   have U1:=mA t1;clear t1;have HF:=mA (show Scu.msgFault ⟨ki,fr,tq,vi,no,co,n,lo⟩=3 from zLc (by have:=zFo U1.out;omega));exact zH2
 | true =>
 have U1:=mA t1;have H1:=mA (show ¬ (ki < 1\/4 < ki) by have:=zDo t1;omega);clear t1;cases t2:inB fr 0 2 with
 | false =>
   have U2:=mA t2;clear t2;have HF:=mA (show Scu.msgFault ⟨ki,fr,tq,vi,no,co,n,lo⟩=2 from zCg H1.out (by have:=zFo U2.out;unfold MC2;omega));exact zH2
 | true =>
 have U2:=mA t2;clear t2;cases t3:inB tq 0 2 with
 | false =>
   have U3:=mA t3;clear t3;have HF:=mA (show Scu.msgFault ⟨ki,fr,tq,vi,no,co,n,lo⟩=2 from zCg H1.out (by have:=zFo U3.out;unfold MC2;omega));exact zH2
 | true =>
 have U3:=mA t3;clear t3;cases t7:(fr == tq) with
 | true =>
   have HF:=mA (show Scu.msgFault ⟨ki,fr,tq,vi,no,co,n,lo⟩=2 from zCg H1.out (.inr (.inr (.inr (.inr (.inl (by simpa using t7)))))));exact zH2
 | false =>
 cases t4:inB vi 0 1048576 with
 | false =>
   have U4:=mA t4;clear t4;have HF:=mA (show Scu.msgFault ⟨ki,fr,tq,vi,no,co,n,lo⟩=2 from zCg H1.out (by have:=zFo U4.out;unfold MC2;omega));exact zH2
 | true =>
 have U4:=mA t4;clear t4;cases t5:inB n 0 60 with
 | false =>
   have U5:=mA t5;clear t5;have HF:=mA (show Scu.msgFault ⟨ki,fr,tq,vi,no,co,n,lo⟩=2 from zCg H1.out (by have:=zFo U5.out;unfold MC2;omega));exact zH2
 | true =>
 have U5:=mA t5;clear t5;have H2:=mA (show ¬ MC2 fr tq vi n by
  have:=zDo U2.out;have:=zDo U3.out;have:=zDo U4.out;have:=zDo U5.out;have h7:fr≠tq:=by simpa using t7
  unfold MC2;omega)
 have Ha:0<=vi:=by have:=zDo U4.out;omega
 have h4:ki=1\/ki=2\/ki=3\/ki=4:=by have:=H1.out;omega
 rcases h4 with rfl | rfl | rfl | rfl
 ·cases u1:(no != 0) with
  | true =>
    have HF:=mA (show Scu.msgFault ⟨1,fr,tq,vi,no,co,n,lo⟩=4 from zAy H1.out H2.out (.inl ⟨by decide,by simpa using u1⟩));exact zH2
  | false =>
  cases u2:(n != 0) with
  | true =>
    have HF:=mA (show Scu.msgFault ⟨1,fr,tq,vi,no,co,n,lo⟩=4 from zAy H1.out H2.out (.inr (.inl ⟨by decide,by simpa using u2⟩)));exact zH2
  | false =>
  have H3:=mA (show ¬ MC3 1 no co n lo by
   have:no=0:=by simpa using u1
   have:n=0:=by simpa using u2
   unfold MC3;simp;omega)
  cases u3:(fr != vi % 3) with
  | true =>
    have HF:=mA (show Scu.msgFault ⟨1,fr,tq,vi,no,co,n,lo⟩=4 from zEn H1.out H2.out H3.out (.inl ⟨rfl,by simpa using u3⟩));exact zH2
  | false =>
  have HF:=mA (show Scu.msgFault ⟨1,fr,tq,vi,no,co,n,lo⟩=Scu.keptFault ⟨vi,no,false,lo,co⟩ from zIb H1.out H2.out H3.out (by have h:fr=vi % 3:=by { simpa using u3 };unfold MC4;omega));exact zI2
 ·cases u1:(no != 0) with
  | true =>
    have HF:=mA (show Scu.msgFault ⟨2,fr,tq,vi,no,co,n,lo⟩=4 from zAy H1.out H2.out (.inl ⟨by decide,by simpa using u1⟩));exact zH2
  | false =>
  cases u2:(co != 0) with
  | true =>
    have HF:=mA (show Scu.msgFault ⟨2,fr,tq,vi,no,co,n,lo⟩=4 from zAy H1.out H2.out (.inr (.inr ⟨.inl rfl,.inl (by simpa using u2)⟩)));exact zH2
  | false =>
  cases u4:((lo.length:Int) != 0) with
  | true =>
    have HF:=mA (show Scu.msgFault ⟨2,fr,tq,vi,no,co,n,lo⟩=4 from zAy H1.out H2.out (.inr (.inr ⟨.inl rfl,.inr (by rintro rfl;simp at u4)⟩)));exact zH2
  | false =>
  have H3:=mA (show ¬ MC3 2 no co n lo by
   have:no=0:=by simpa using u1
   have:co=0:=by simpa using u2
   have h5:lo=[]:=by simpa using u4
   unfold MC3;simp [h5];omega)
  cases u3:(tq != vi % 3) with
  | true =>
    have HF:=mA (show Scu.msgFault ⟨2,fr,tq,vi,no,co,n,lo⟩=4 from zEn H1.out H2.out H3.out (.inr ⟨.inl rfl,by simpa using u3⟩));exact zH2
  | false =>
  have HF:=mA (show Scu.msgFault ⟨2,fr,tq,vi,no,co,n,lo⟩=Scu.keptFault ⟨vi,no,false,lo,co⟩ from zIb H1.out H2.out H3.out (by have h:tq=vi % 3:=by { simpa using u3 };unfold MC4;omega));exact zI2
 ·cases u1:(no != 0) with
  | true =>
    have HF:=mA (show Scu.msgFault ⟨3,fr,tq,vi,no,co,n,lo⟩=4 from zAy H1.out H2.out (.inl ⟨by decide,by simpa using u1⟩));exact zH2
  | false =>
  cases u5:(n != 0) with
  | true =>
    have HF:=mA (show Scu.msgFault ⟨3,fr,tq,vi,no,co,n,lo⟩=4 from zAy H1.out H2.out (.inr (.inl ⟨by decide,by simpa using u5⟩)));exact zH2
  | false =>
  cases u2:(co != 0) with
  | true =>
    have HF:=mA (show Scu.msgFault ⟨3,fr,tq,vi,no,co,n,lo⟩=4 from zAy H1.out H2.out (.inr (.inr ⟨.inr rfl,.inl (by simpa using u2)⟩)));exact zH2
  | false =>
  cases u4:((lo.length:Int) != 0) with
  | true =>
    have HF:=mA (show Scu.msgFault ⟨3,fr,tq,vi,no,co,n,lo⟩=4 from zAy H1.out H2.out (.inr (.inr ⟨.inr rfl,.inr (by rintro rfl;simp at u4)⟩)));exact zH2
  | false =>
  have H3:=mA (show ¬ MC3 3 no co n lo by
   have:no=0:=by simpa using u1
   have:co=0:=by simpa using u2
   have:n=0:=by simpa using u5
   have h5:lo=[]:=by simpa using u4
   unfold MC3;simp [h5];omega)
  have HF:=mA (show Scu.msgFault ⟨3,fr,tq,vi,no,co,n,lo⟩=Scu.keptFault ⟨vi,no,false,lo,co⟩ from zIb H1.out H2.out H3.out (by unfold MC4;omega));exact zI2
 cases u2:(n != 0) with
 | true =>
   have HF:=mA (show Scu.msgFault ⟨4,fr,tq,vi,no,co,n,lo⟩=4 from zAy H1.out H2.out (.inr (.inl ⟨by decide,by simpa using u2⟩)));exact zH2
 | false =>
 have H3:=mA (show ¬ MC3 4 no co n lo by
  have:n=0:=by simpa using u2
  unfold MC3;simp;omega)
 cases u3:(tq != vi % 3) with
 | true =>
   have HF:=mA (show Scu.msgFault ⟨4,fr,tq,vi,no,co,n,lo⟩=4 from zEn H1.out H2.out H3.out (.inr ⟨.inr rfl,by simpa using u3⟩));exact zH2
 | false =>
 have HF:=mA (show Scu.msgFault ⟨4,fr,tq,vi,no,co,n,lo⟩=Scu.keptFault ⟨vi,no,false,lo,co⟩ from zIb H1.out H2.out H3.out (by have h:tq=vi % 3:=by { simpa using u3 };unfold MC4;omega));exact zI2
section
variable {H:Type} {enc:TypeId × Value->H} {w:World} {base:Nat} {spare:Nat->Bool} {held:Bool} {n:Nat}
end
open Go.RowKit
def OwnOnes {α:Type} (t:TypeId) (bytes:Nat) (f:α->Value) (w:World) (base:Nat) (v:Value) (xs:List α):Prop:=w.ownsRow base t 1 v xs.length (xs.map f)/\xs.length*bytes<=R47
section
variable {α:Type} {t:TypeId} {bytes:Nat} {f:α->Value} {w w':World} {B base base':Nat} {v:Value} {xs:List α}
theorem OwnOnes.is (h:OwnOnes t bytes f w base v xs):IsOnes t bytes f w 0 v xs:=by
 obtain ⟨A,c,rfl,hc,_,hr,_⟩:=zAi h.1;exact ⟨⟨_,_,rfl,hc,hr⟩,h.2⟩
theorem OwnOnes.form (h:OwnOnes t bytes f w base v xs):∃ A n c,v=.slice A n c:=h.is.form
theorem OwnOnes.same (h:OwnOnes t bytes f w base v xs) (hs:Same [t] B w w'):OwnOnes t bytes f w' base v xs:=⟨zCq h.1 (by simp) hs,h.2⟩
theorem OwnOnes.below (h:OwnOnes t bytes f w base v xs) (hb:Below w.heap.size w w'):OwnOnes t bytes f w' base v xs:=h.same (B:=0) (Same.below hb)
theorem OwnOnes.base_ (h:OwnOnes t bytes f w base v xs) (hb:base'<=base):OwnOnes t bytes f w base' v xs:=⟨zAl h.1 hb,h.2⟩
theorem OwnOnes.lt (h:OwnOnes t bytes f w base v xs) {g:Nat} (hg:v.ownBlock=some g):base<=g/\g < w.heap.size:=h.1.lt g hg
end
structure OwnRep0 (w:World) (base:Nat) (lv hv wv nv:Value) (r:Scu.Replica):Prop where
 log:OwnStrs w base lv r.kept.log
 have_:OwnOnes 3 8 vInt w base hv r.have_
 wants:OwnOnes 4 1 Value.bool w base wv r.wants
 given:OwnOnes 4 1 Value.bool w base nv r.given
 apart:∀ g,wv.ownBlock=some g->nv.ownBlock≠some g
section
variable {w w':World} {B base base':Nat} {lv hv wv nv:Value} {r:Scu.Replica}
theorem OwnRep0.same (h:OwnRep0 w base lv hv wv nv r) (hs:Same [9,3,4] B w w'):OwnRep0 w' base lv hv wv nv r :=
 ⟨h.log.same (hs.mono (by simp) (mC _)),h.have_.same (hs.mono (by simp) (mC _)),h.wants.same (hs.mono (by simp) (mC _)),h.given.same (hs.mono (by simp) (mC _)),h.apart⟩
theorem OwnRep0.below (h:OwnRep0 w base lv hv wv nv r) (hb:Below w.heap.size w w'):OwnRep0 w' base lv hv wv nv r:=h.same (B:=0) (Same.below hb)
theorem OwnRep0.base_ (h:OwnRep0 w base lv hv wv nv r) (hb:base'<=base):OwnRep0 w base' lv hv wv nv r:=⟨h.log.base_ hb,h.have_.base_ hb,h.wants.base_ hb,h.given.base_ hb,h.apart⟩
end
section
variable {w:World} {g:Nat} {t:TypeId} {a0 a1 a2 a3 a4 a5 a6 a7 a8 a9 b0 b1 b2 b3 b4 b5 b6 b7 b8 b9:Value}
theorem zAm (h:Blk w g t #[b0,b1,b2,b3,b4,b5,b6,b7,b8,b9]):Blk ((((((((((w.setCell ⟨g,0,none⟩ a0).setCell ⟨g,1,none⟩ a1).setCell ⟨g,2,none⟩ a2).setCell ⟨g,3,none⟩ a3).setCell ⟨g,4,none⟩ a4).setCell ⟨g,5,none⟩ a5).setCell ⟨g,6,none⟩ a6).setCell ⟨g,7,none⟩ a7).setCell ⟨g,8,none⟩ a8).setCell ⟨g,9,none⟩ a9) g t #[a0,a1,a2,a3,a4,a5,a6,a7,a8,a9]:=by
 have h0:Blk _ g t #[a0,b1,b2,b3,b4,b5,b6,b7,b8,b9]:=h.set_ 0 a0;have h1:Blk _ g t #[a0,a1,b2,b3,b4,b5,b6,b7,b8,b9]:=h0.set_ 1 a1;have h2:Blk _ g t #[a0,a1,a2,b3,b4,b5,b6,b7,b8,b9]:=h1.set_ 2 a2;have h3:Blk _ g t #[a0,a1,a2,a3,b4,b5,b6,b7,b8,b9]:=h2.set_ 3 a3;have h4:Blk _ g t #[a0,a1,a2,a3,a4,b5,b6,b7,b8,b9]:=h3.set_ 4 a4;have h5:Blk _ g t #[a0,a1,a2,a3,a4,a5,b6,b7,b8,b9]:=h4.set_ 5 a5;have h6:Blk _ g t #[a0,a1,a2,a3,a4,a5,a6,b7,b8,b9]:=h5.set_ 6 a6;have h7:Blk _ g t #[a0,a1,a2,a3,a4,a5,a6,a7,b8,b9]:=h6.set_ 7 a7;have h8:Blk _ g t #[a0,a1,a2,a3,a4,a5,a6,a7,a8,b9]:=h7.set_ 8 a8;have h9:Blk _ g t #[a0,a1,a2,a3,a4,a5,a6,a7,a8,a9]:=h8.set_ 9 a9;exact h9
theorem Same.sets10 {Ts:List TypeId} {B:Nat} (h:Blk w g t #[b0,b1,b2,b3,b4,b5,b6,b7,b8,b9]) (hB:B<=g) (ht:t ∉ Ts):Same Ts B w ((((((((((w.setCell ⟨g,0,none⟩ a0).setCell ⟨g,1,none⟩ a1).setCell ⟨g,2,none⟩ a2).setCell ⟨g,3,none⟩ a3).setCell ⟨g,4,none⟩ a4).setCell ⟨g,5,none⟩ a5).setCell ⟨g,6,none⟩ a6).setCell ⟨g,7,none⟩ a7).setCell ⟨g,8,none⟩ a8).setCell ⟨g,9,none⟩ a9) :=
 (((((((((Same.set_ h hB ht 0 a0).trans (Same.set_ (h.set_ 0 a0) hB ht 1 a1)).trans (Same.set_ ((h.set_ 0 a0).set_ 1 a1) hB ht 2 a2)).trans (Same.set_ (((h.set_ 0 a0).set_ 1 a1).set_ 2 a2) hB ht 3 a3)).trans
   (Same.set_ ((((h.set_ 0 a0).set_ 1 a1).set_ 2 a2).set_ 3 a3) hB ht 4 a4)).trans (Same.set_ (((((h.set_ 0 a0).set_ 1 a1).set_ 2 a2).set_ 3 a3).set_ 4 a4) hB ht 5 a5)).trans
   (Same.set_ ((((((h.set_ 0 a0).set_ 1 a1).set_ 2 a2).set_ 3 a3).set_ 4 a4).set_ 5 a5) hB ht 6 a6)).trans (Same.set_ (((((((h.set_ 0 a0).set_ 1 a1).set_ 2 a2).set_ 3 a3).set_ 4 a4).set_ 5 a5).set_ 6 a6) hB ht 7 a7)).trans
   (Same.set_ ((((((((h.set_ 0 a0).set_ 1 a1).set_ 2 a2).set_ 3 a3).set_ 4 a4).set_ 5 a5).set_ 6 a6).set_ 7 a7) hB ht 8 a8)).trans (Same.set_ (((((((((h.set_ 0 a0).set_ 1 a1).set_ 2 a2).set_ 3 a3).set_ 4 a4).set_ 5 a5).set_ 6 a6).set_ 7 a7).set_ 8 a8) hB ht 9 a9)
theorem zAh {B:Nat} {w0:World} (h:Below B w0 w) (hg:B<=g):Below B w0 ((((((((((w.setCell ⟨g,0,none⟩ a0).setCell ⟨g,1,none⟩ a1).setCell ⟨g,2,none⟩ a2).setCell ⟨g,3,none⟩ a3).setCell ⟨g,4,none⟩ a4).setCell ⟨g,5,none⟩ a5).setCell ⟨g,6,none⟩ a6).setCell ⟨g,7,none⟩ a7).setCell ⟨g,8,none⟩ a8).setCell ⟨g,9,none⟩ a9) :=
 (((((((((h.setCell (p:=⟨g,0,none⟩) hg a0).setCell (p:=⟨g,1,none⟩) hg a1).setCell (p:=⟨g,2,none⟩) hg a2).setCell (p:=⟨g,3,none⟩) hg a3).setCell (p:=⟨g,4,none⟩) hg a4).setCell (p:=⟨g,5,none⟩) hg a5).setCell (p:=⟨g,6,none⟩) hg a6).setCell (p:=⟨g,7,none⟩) hg a7).setCell (p:=⟨g,8,none⟩) hg a8).setCell (p:=⟨g,9,none⟩) hg a9
end
structure Rep0 (Wd:World) (r:Scu.Replica) (g:Nat) (lu hv wv nv:Value) (wx:World):Prop where
 out:Blk wx g 47 #[.int .i64 r.me,.int .i64 r.kept.view,.int .i64 r.kept.normal,.bool r.kept.calm,lu,.int .i64 r.kept.commit,hv,wv,.slice none 0 0,nv]
 lo:Wd.heap.size<=g
 own:OwnRep0 wx Wd.heap.size lu hv wv nv r
 low:Below Wd.heap.size Wd wx
theorem zOv {Wd x:World} {r:Scu.Replica} {lu hv wv nv:Value} (hb:Below Wd.heap.size Wd x) (ho:OwnRep0 x Wd.heap.size lu hv wv nv r) :
 Rep0 Wd r x.heap.size lu hv wv nv (x.alloc (.cells #[.int .i64 r.me,.int .i64 r.kept.view,.int .i64 r.kept.normal,.bool r.kept.calm,lu,.int .i64 r.kept.commit,hv,wv,.slice none 0 0,nv] 47)) :=
 ⟨Blk.new x _ _,hb.size,ho.below (zAa x _),hb.alloc hb.size _⟩
theorem zEb {Wd w:World} {r:Scu.Replica} {g:Nat} {lu hv wv nv b0 b1 b2 b3 b4 b5 b6 b7 b8 b9:Value} (hb:Below Wd.heap.size Wd w) (ho:OwnRep0 w Wd.heap.size lu hv wv nv r) (h:Blk w g 47 #[b0,b1,b2,b3,b4,b5,b6,b7,b8,b9]) (hg:Wd.heap.size<=g) :
 Rep0 Wd r g lu hv wv nv ((((((((((w.setCell ⟨g,0,none⟩ (.int .i64 r.me)).setCell ⟨g,1,none⟩ (.int .i64 r.kept.view)).setCell ⟨g,2,none⟩ (.int .i64 r.kept.normal)).setCell ⟨g,3,none⟩ (.bool r.kept.calm)).setCell ⟨g,4,none⟩ lu).setCell ⟨g,5,none⟩ (.int .i64 r.kept.commit)).setCell ⟨g,6,none⟩ hv).setCell ⟨g,7,none⟩ wv).setCell ⟨g,8,none⟩ (.slice none 0 0)).setCell ⟨g,9,none⟩ nv) :=
 ⟨zAm h,hg,ho.same (Same.sets10 (B:=0) h (mE _) (by decide)),zAh hb hg⟩
end Go.Proofs.YtlngfbngnnepiaaGreat
