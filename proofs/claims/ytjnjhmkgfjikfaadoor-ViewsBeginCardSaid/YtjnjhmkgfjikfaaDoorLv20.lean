/- Part 20: words and walks under the laws of the whole. -/
import Derived.Test.YtjnjhmkgfjikfaaDoorLv16
import Derived.Test.YtjnjhmkgfjikfaaDoorLv17
import Derived.Test.YtjnjhmkgfjikfaaDoorLv19
set_option linter.unusedVariables false
set_option linter.unusedSimpArgs false
set_option maxHeartbeats 4000000
set_option maxRecDepth 100000
namespace Go.Proofs.YtjnjhmkgfjikfaaDoor
open Go.RowKit
theorem zBa (lv:Value) (m:Scu.Message) (w:World) (B:Nat) (hv:IsStrs w B lv m.log) (f:Int) (h:Scu.msgFault m=f) :
 Calls Tryd.prog 24 #[.agg #[.int .i64 m.kind,.int .i64 m.from_,.int .i64 m.tq,.int .i64 m.view,.int .i64 m.normal,.int .i64 m.commit,.int .i64 m.n,lv]] w fun e w'=>e=.returned (.int .i64 f)/\Below w.heap.size w w':=by
 have:=zHi lv m.kind m.from_ m.tq m.view m.normal m.commit m.n m.log w B hv
 rw [show (⟨m.kind,m.from_,m.tq,m.view,m.normal,m.commit,m.n,m.log⟩:Scu.Message)=m from rfl,h] at this
 exact this
theorem LowStrs.up {w:World} {base base':Nat} {v:Value} {xs:List Scu.Str} (h:LowStrs w base v xs) (hb:base<=base'):LowStrs w base' v xs:=by
 obtain ⟨⟨A,c,rfl,hc,hr⟩,h2,h3⟩:=h
 refine ⟨⟨A,c,rfl,hc,?_⟩,h2,h3⟩
 rcases hr with h | ⟨g,o,h1,h2,h4⟩
 ·exact .inl h
 exact .inr ⟨g,o,h1,by omega,h4⟩
theorem zAr (w:World) (a b c:Obj):Below w.heap.size w (((w.alloc a).alloc b).alloc c):=((zAa w a).alloc (by simp) b).alloc (by simp;omega) c
theorem zMs (lv hv wv gv nv xv:Value) (r:Scu.Replica) (m:Scu.Message) (w:World) (B:Nat) (hr:IsRep w B lv hv wv gv nv r) (hx:IsStrs w B xv m.log) (f:Int) (hf:Scu.repFault r=f) (hn:f≠0) :
 Calls Tryd.prog 12 #[.agg #[.int .i64 r.me,.int .i64 r.kept.view,.int .i64 r.kept.normal,.bool r.kept.calm,lv,.int .i64 r.kept.commit,hv,wv,gv,nv],.agg #[.int .i64 m.kind,.int .i64 m.from_,.int .i64 m.tq,.int .i64 m.view,.int .i64 m.normal,.int .i64 m.commit,.int .i64 m.n,xv]] w fun e w'=>TellN w.heap.size w' Scu.replica0 [] f e/\Below w.heap.size w w':=by
 have Ha:(f != 0)=true:=by simpa using hn
 have HN:=mA hn
 clear hn
 have HV:=mA hr
 have HX:=mA hx
 have HF:=mA hf
 obtain ⟨A0,n0,c0,A1,c1,A2,c2,A3,c3,A4,c4,rfl,rfl,rfl,rfl,rfl⟩:=hr.forms
 obtain ⟨A,c,rfl,_,_⟩:=hx.ex
 clear hr hf hx
 go_enter Tryd.func12,Tryd.ntmps12
 go_wp2_with fail
 have h0:Below w.heap.size w (((w.alloc (.cells (rN r A0 n0 c0 A1 c1 A2 c2 A3 c3 A4 c4) 30)).alloc (.cells (mN m A m.log.length c) 43)).alloc (.cells zR 30)):=zAr w _ _ _
 refine (zGg _ _ _ _ _ r _ B (HV.out.below h0) f HF.out HN.out).mono ?_;rintro en w1 ⟨rfl,h1⟩
 have hz:Blk w1 (w.heap.size+2) 30 zR:=(Blk.new' (by simp)).same h1
 have hb:=h0.trans (h1.mono h0.size)
 obtain ⟨z0,z1,z2,z3,z4,z5,z6,z7,z8,z9⟩:=cz10 hz
 have zz:=hz.frozen
 have zl:=hz.lt
 have hr:=zAj (a0:=.int .i64 0) (a1:=.int .i64 0) (a2:=.int .i64 0) (a3:=.bool false) (a4:=.slice none 0 0) (a5:=.int .i64 0) (a6:=.slice none 0 0) (a7:=.slice none 0 0) (a8:=.slice none 0 0) (a9:=.slice none 0 0) hz
 obtain ⟨r0,r1,r2,r3,r4,r5,r6,r7,r8,r9⟩:=cz10 hr
 have rz:=hr.frozen
 have rl:=hr.lt
 clear h1 h0
 go_wp2
 refine bodyPost_ret (v:=.tuple #[.agg zR,.slice none 0 0,.int .i64 f]) (by simp [results,Tryd.results12,go_sem,r0,r1,r2,r3,r4,r5,r6,r7,r8,r9]) rfl ?_
 exact ⟨zAp _ _ _,zAf hb (by omega)⟩
theorem zMt (lv hv wv gv nv xv:Value) (r:Scu.Replica) (m:Scu.Message) (w:World) (B:Nat) (hr:IsRep w B lv hv wv gv nv r) (hx:IsStrs w B xv m.log) (hf:Scu.repFault r=0) (f:Int) (hg:Scu.msgFault m=f) (hn:f≠0) :
 Calls Tryd.prog 12 #[.agg #[.int .i64 r.me,.int .i64 r.kept.view,.int .i64 r.kept.normal,.bool r.kept.calm,lv,.int .i64 r.kept.commit,hv,wv,gv,nv],.agg #[.int .i64 m.kind,.int .i64 m.from_,.int .i64 m.tq,.int .i64 m.view,.int .i64 m.normal,.int .i64 m.commit,.int .i64 m.n,xv]] w fun e w'=>TellN w.heap.size w' Scu.replica0 [] f e/\Below w.heap.size w w':=by
 have Hb:(f != 0)=true:=by simpa using hn
 have HG:=mA hg
 clear hn hg
 have Hc:=zAu hf
 have HV:=mA hr
 have HX:=mA hx
 have HF:=mA hf
 obtain ⟨A0,n0,c0,A1,c1,A2,c2,A3,c3,A4,c4,rfl,rfl,rfl,rfl,rfl⟩:=hr.forms
 obtain ⟨A,c,rfl,_,_⟩:=hx.ex
 clear hr hf hx
 go_enter Tryd.func12,Tryd.ntmps12
 go_wp2_with fail
 have h0:Below w.heap.size w (((w.alloc (.cells (rN r A0 n0 c0 A1 c1 A2 c2 A3 c3 A4 c4) 30)).alloc (.cells (mN m A m.log.length c) 43)).alloc (.cells zR 30)):=zAr w _ _ _
 refine (zAz _ _ _ _ _ r _ B (HV.out.below h0) HF.out).mono ?_;rintro en w1 ⟨⟨gw,gr,lu,hu,wu,gu,nu,rfl,hW,_⟩,h1⟩
 have e2:(((w.alloc (.cells (rN r A0 n0 c0 A1 c1 A2 c2 A3 c3 A4 c4) 30)).alloc (.cells (mN m A m.log.length c) 43)).alloc (.cells zR 30)).heap.size=w.heap.size+3:=by simp
 rw [e2] at hW
 have hs:Blk w1 w.heap.size 30 (rN r A0 n0 c0 A1 c1 A2 c2 A3 c3 A4 c4):=(((Blk.new w _ _).alloc _).alloc _).same h1
 have hk:Blk w1 (w.heap.size+1) 43 (mN m A m.log.length c):=((Blk.new' (by simp)).alloc _).same h1
 have hz:Blk w1 (w.heap.size+2) 30 zR:=(Blk.new' (by simp)).same h1
 have hb:=h0.trans (h1.mono h0.size)
 have Ha:w.heap.size+3<=w1.heap.size:=by have:=h1.size;rw [e2] at this;exact this
 have H1:=mA (mB hW (mB hs (mB hk (mB hz (mB hb Ha)))))
 obtain ⟨k0,k1,k2,k3,k4,k5,k6,k7⟩:=cz8 hk
 have kl:=hk.lt
 clear h1 h0 hs hz hb hW e2 Ha HF hk
 go_wp2_with fail
 refine (zBa _ m w1 B (HX.out.below H1.out.2.2.2.2.1) f HG.out).mono ?_;rintro en w2 ⟨rfl,h2⟩
 have H2:=mA (show Work w2 (w.heap.size+3) gw gr r lu hu wu gu nu (.slice none 0 0) [] []/\Blk w2 w.heap.size 30 (rN r A0 n0 c0 A1 c1 A2 c2 A3 c3 A4 c4)/\Blk w2 (w.heap.size+1) 43 (mN m A m.log.length c)/\Blk w2 (w.heap.size+2) 30 zR/\Below w.heap.size w w2/\w.heap.size+3<=w2.heap.size from
  ⟨H1.out.1.below h2,H1.out.2.1.same h2,H1.out.2.2.1.same h2,H1.out.2.2.2.1.same h2,H1.out.2.2.2.2.1.trans (h2.mono H1.out.2.2.2.2.1.size),mD H1.out.2.2.2.2.2 h2.size⟩)
 clear h2 k0 k1 k2 k3 k4 k5 k6 k7 kl
 have hz:=H2.out.2.2.2.1
 obtain ⟨z0,z1,z2,z3,z4,z5,z6,z7,z8,z9⟩:=cz10 hz
 have zz:=hz.frozen
 have zl:=hz.lt
 have hr:=zAj (a0:=.int .i64 0) (a1:=.int .i64 0) (a2:=.int .i64 0) (a3:=.bool false) (a4:=.slice none 0 0) (a5:=.int .i64 0) (a6:=.slice none 0 0) (a7:=.slice none 0 0) (a8:=.slice none 0 0) (a9:=.slice none 0 0) hz
 obtain ⟨r0,r1,r2,r3,r4,r5,r6,r7,r8,r9⟩:=cz10 hr
 have rz:=hr.frozen
 have rl:=hr.lt
 go_wp2
 refine bodyPost_ret (v:=.tuple #[.agg zR,.slice none 0 0,.int .i64 f]) (by simp [results,Tryd.results12,go_sem,r0,r1,r2,r3,r4,r5,r6,r7,r8,r9]) rfl ?_
 exact ⟨zAp _ _ _,zAf H2.out.2.2.2.2.1 (by omega)⟩
theorem zMu (lv hv wv gv nv xv:Value) (r:Scu.Replica) (m:Scu.Message) (w:World) (B:Nat) (hr:IsRep w B lv hv wv gv nv r) (hx:IsStrs w B xv m.log) (hf:Scu.repFault r=0) (hg:Scu.msgFault m=0) (ht:m.tq≠r.me) :
 Calls Tryd.prog 12 #[.agg #[.int .i64 r.me,.int .i64 r.kept.view,.int .i64 r.kept.normal,.bool r.kept.calm,lv,.int .i64 r.kept.commit,hv,wv,gv,nv],.agg #[.int .i64 m.kind,.int .i64 m.from_,.int .i64 m.tq,.int .i64 m.view,.int .i64 m.normal,.int .i64 m.commit,.int .i64 m.n,xv]] w fun e w'=>TellN w.heap.size w' Scu.replica0 [] 6 e/\Below w.heap.size w w':=by
 have Hb:(m.tq != r.me)=true:=by simpa using ht
 have HG:=mA hg
 clear ht hg
 have Hc:=zAu hf
 have HV:=mA hr
 have HX:=mA hx
 have HF:=mA hf
 obtain ⟨A0,n0,c0,A1,c1,A2,c2,A3,c3,A4,c4,rfl,rfl,rfl,rfl,rfl⟩:=hr.forms
 obtain ⟨A,c,rfl,_,_⟩:=hx.ex
 clear hr hf hx
 go_enter Tryd.func12,Tryd.ntmps12
 go_wp2_with fail
 have h0:Below w.heap.size w (((w.alloc (.cells (rN r A0 n0 c0 A1 c1 A2 c2 A3 c3 A4 c4) 30)).alloc (.cells (mN m A m.log.length c) 43)).alloc (.cells zR 30)):=zAr w _ _ _
 refine (zAz _ _ _ _ _ r _ B (HV.out.below h0) HF.out).mono ?_;rintro en w1 ⟨⟨gw,gr,lu,hu,wu,gu,nu,rfl,hW,_⟩,h1⟩
 have e2:(((w.alloc (.cells (rN r A0 n0 c0 A1 c1 A2 c2 A3 c3 A4 c4) 30)).alloc (.cells (mN m A m.log.length c) 43)).alloc (.cells zR 30)).heap.size=w.heap.size+3:=by simp
 rw [e2] at hW
 have hs:Blk w1 w.heap.size 30 (rN r A0 n0 c0 A1 c1 A2 c2 A3 c3 A4 c4):=(((Blk.new w _ _).alloc _).alloc _).same h1
 have hk:Blk w1 (w.heap.size+1) 43 (mN m A m.log.length c):=((Blk.new' (by simp)).alloc _).same h1
 have hz:Blk w1 (w.heap.size+2) 30 zR:=(Blk.new' (by simp)).same h1
 have hb:=h0.trans (h1.mono h0.size)
 have Ha:w.heap.size+3<=w1.heap.size:=by have:=h1.size;rw [e2] at this;exact this
 have H1:=mA (mB hW (mB hs (mB hk (mB hz (mB hb Ha)))))
 obtain ⟨k0,k1,k2,k3,k4,k5,k6,k7⟩:=cz8 hk
 have kl:=hk.lt
 clear h1 h0 hs hz hb hW e2 Ha HF hk
 go_wp2_with fail
 refine (zBa _ m w1 B (HX.out.below H1.out.2.2.2.2.1) 0 HG.out).mono ?_;rintro en w2 ⟨rfl,h2⟩
 have H2:=mA (show Work w2 (w.heap.size+3) gw gr r lu hu wu gu nu (.slice none 0 0) [] []/\Blk w2 w.heap.size 30 (rN r A0 n0 c0 A1 c1 A2 c2 A3 c3 A4 c4)/\Blk w2 (w.heap.size+1) 43 (mN m A m.log.length c)/\Blk w2 (w.heap.size+2) 30 zR/\Below w.heap.size w w2/\w.heap.size+3<=w2.heap.size from
  ⟨H1.out.1.below h2,H1.out.2.1.same h2,H1.out.2.2.1.same h2,H1.out.2.2.2.1.same h2,H1.out.2.2.2.2.1.trans (h2.mono H1.out.2.2.2.2.1.size),mD H1.out.2.2.2.2.2 h2.size⟩)
 clear h2 k0 k1 k2 k3 k4 k5 k6 k7 kl
 have hs:=H2.out.2.1
 obtain ⟨s0,s1⟩:=cz2 hs
 have sl:=hs.lt
 have hk:=H2.out.2.2.1
 obtain ⟨k0,-,k2,k3⟩:=cz4 hk
 have kl:=hk.lt
 clear hs hk
 have hz:=H2.out.2.2.2.1
 obtain ⟨z0,z1,z2,z3,z4,z5,z6,z7,z8,z9⟩:=cz10 hz
 have zz:=hz.frozen
 have zl:=hz.lt
 have hr:=zAj (a0:=.int .i64 0) (a1:=.int .i64 0) (a2:=.int .i64 0) (a3:=.bool false) (a4:=.slice none 0 0) (a5:=.int .i64 0) (a6:=.slice none 0 0) (a7:=.slice none 0 0) (a8:=.slice none 0 0) (a9:=.slice none 0 0) hz
 obtain ⟨r0,r1,r2,r3,r4,r5,r6,r7,r8,r9⟩:=cz10 hr
 have rz:=hr.frozen
 have rl:=hr.lt
 go_wp2
 refine bodyPost_ret (v:=.tuple #[.agg zR,.slice none 0 0,.int .i64 6]) (by simp [results,Tryd.results12,go_sem,r0,r1,r2,r3,r4,r5,r6,r7,r8,r9]) rfl ?_
 exact ⟨zAp _ _ _,zAf H2.out.2.2.2.2.1 (by omega)⟩
theorem zMv (lv hv wv gv nv xv:Value) (r:Scu.Replica) (m:Scu.Message) (w:World) (B:Nat) (hr:IsRep w B lv hv wv gv nv r) (hx:IsStrs w B xv m.log) (hf:Scu.repFault r=0) (hg:Scu.msgFault m=0) (ht:m.tq=r.me) (Ha:m.view < r.kept.view) :
 Calls Tryd.prog 12 #[.agg #[.int .i64 r.me,.int .i64 r.kept.view,.int .i64 r.kept.normal,.bool r.kept.calm,lv,.int .i64 r.kept.commit,hv,wv,gv,nv],.agg #[.int .i64 m.kind,.int .i64 m.from_,.int .i64 m.tq,.int .i64 m.view,.int .i64 m.normal,.int .i64 m.commit,.int .i64 m.n,xv]] w fun e w'=>TellN w.heap.size w' Scu.replica0 [] 9 e/\Below w.heap.size w w':=by
 have Hc:(m.tq != r.me)=false:=by simpa using ht
 have Hd:decide (m.view < r.kept.view)=true:=by simpa using Ha
 have HG:=mA hg
 clear ht hg Ha
 have He:=zAu hf
 have HV:=mA hr
 have HX:=mA hx
 have HF:=mA hf
 obtain ⟨A0,n0,c0,A1,c1,A2,c2,A3,c3,A4,c4,rfl,rfl,rfl,rfl,rfl⟩:=hr.forms
 obtain ⟨A,c,rfl,_,_⟩:=hx.ex
 clear hr hf hx
 go_enter Tryd.func12,Tryd.ntmps12
 go_wp2_with fail
 have h0:Below w.heap.size w (((w.alloc (.cells (rN r A0 n0 c0 A1 c1 A2 c2 A3 c3 A4 c4) 30)).alloc (.cells (mN m A m.log.length c) 43)).alloc (.cells zR 30)):=zAr w _ _ _
 refine (zAz _ _ _ _ _ r _ B (HV.out.below h0) HF.out).mono ?_;rintro en w1 ⟨⟨gw,gr,lu,hu,wu,gu,nu,rfl,hW,_⟩,h1⟩
 have e2:(((w.alloc (.cells (rN r A0 n0 c0 A1 c1 A2 c2 A3 c3 A4 c4) 30)).alloc (.cells (mN m A m.log.length c) 43)).alloc (.cells zR 30)).heap.size=w.heap.size+3:=by simp
 rw [e2] at hW
 have hs:Blk w1 w.heap.size 30 (rN r A0 n0 c0 A1 c1 A2 c2 A3 c3 A4 c4):=(((Blk.new w _ _).alloc _).alloc _).same h1
 have hk:Blk w1 (w.heap.size+1) 43 (mN m A m.log.length c):=((Blk.new' (by simp)).alloc _).same h1
 have hz:Blk w1 (w.heap.size+2) 30 zR:=(Blk.new' (by simp)).same h1
 have hb:=h0.trans (h1.mono h0.size)
 have Hb:w.heap.size+3<=w1.heap.size:=by have:=h1.size;rw [e2] at this;exact this
 have H1:=mA (mB hW (mB hs (mB hk (mB hz (mB hb Hb)))))
 obtain ⟨k0,k1,k2,k3,k4,k5,k6,k7⟩:=cz8 hk
 have kl:=hk.lt
 clear h1 h0 hs hz hb hW e2 Hb HF hk
 go_wp2_with fail
 refine (zBa _ m w1 B (HX.out.below H1.out.2.2.2.2.1) 0 HG.out).mono ?_;rintro en w2 ⟨rfl,h2⟩
 have H2:=mA (show Work w2 (w.heap.size+3) gw gr r lu hu wu gu nu (.slice none 0 0) [] []/\Blk w2 w.heap.size 30 (rN r A0 n0 c0 A1 c1 A2 c2 A3 c3 A4 c4)/\Blk w2 (w.heap.size+1) 43 (mN m A m.log.length c)/\Blk w2 (w.heap.size+2) 30 zR/\Below w.heap.size w w2/\w.heap.size+3<=w2.heap.size from
  ⟨H1.out.1.below h2,H1.out.2.1.same h2,H1.out.2.2.1.same h2,H1.out.2.2.2.1.same h2,H1.out.2.2.2.2.1.trans (h2.mono H1.out.2.2.2.2.1.size),mD H1.out.2.2.2.2.2 h2.size⟩)
 clear h2 k0 k1 k2 k3 k4 k5 k6 k7 kl
 have hs:=H2.out.2.1
 obtain ⟨s0,s1⟩:=cz2 hs
 have sl:=hs.lt
 have hk:=H2.out.2.2.1
 obtain ⟨k0,-,k2,k3⟩:=cz4 hk
 have kl:=hk.lt
 clear hs hk
 have hz:=H2.out.2.2.2.1
 obtain ⟨z0,z1,z2,z3,z4,z5,z6,z7,z8,z9⟩:=cz10 hz
 have zz:=hz.frozen
 have zl:=hz.lt
 have hr:=zAj (a0:=.int .i64 0) (a1:=.int .i64 0) (a2:=.int .i64 0) (a3:=.bool false) (a4:=.slice none 0 0) (a5:=.int .i64 0) (a6:=.slice none 0 0) (a7:=.slice none 0 0) (a8:=.slice none 0 0) (a9:=.slice none 0 0) hz
 obtain ⟨r0,r1,r2,r3,r4,r5,r6,r7,r8,r9⟩:=cz10 hr
 have rz:=hr.frozen
 have rl:=hr.lt
 go_wp2
 refine bodyPost_ret (v:=.tuple #[.agg zR,.slice none 0 0,.int .i64 9]) (by simp [results,Tryd.results12,go_sem,r0,r1,r2,r3,r4,r5,r6,r7,r8,r9]) rfl ?_
 exact ⟨zAp _ _ _,zAf H2.out.2.2.2.2.1 (by omega)⟩
theorem zMw (lv hv wv gv nv xv:Value) (r:Scu.Replica) (m:Scu.Message) (w:World) (B:Nat) (hr:IsRep w B lv hv wv gv nv r) (hx:IsStrs w B xv m.log) (hf:Scu.repFault r=0) (hg:Scu.msgFault m=0) (ht:m.tq=r.me) (Hi:¬ m.view < r.kept.view) (rr:Scu.Replica) (ms:List Scu.Message) (He:m.kind=1) (Hj:Scu.hearLead r m=(rr,ms)) :
 Calls Tryd.prog 12 #[.agg #[.int .i64 r.me,.int .i64 r.kept.view,.int .i64 r.kept.normal,.bool r.kept.calm,lv,.int .i64 r.kept.commit,hv,wv,gv,nv],.agg #[.int .i64 m.kind,.int .i64 m.from_,.int .i64 m.tq,.int .i64 m.view,.int .i64 m.normal,.int .i64 m.commit,.int .i64 m.n,xv]] w fun e w'=>TellN w.heap.size w' rr ms 0 e/\Below w.heap.size w w':=by
 have Ht:(m.tq != r.me)=false:=by simpa using ht
 have Hu:decide (m.view < r.kept.view)=false:=by simpa using Hi
 have HG:=mA hg
 have Hh:=mA (Scu.msgFault_ok hg)
 have HT:=mA ht
 have Hp:=mA Hj
 have Hq:=mA (zCe hf)
 have q1:(m.kind == 1)=true:=by rw [He];rfl
 have q2:(m.kind == 2)=false:=by rw [He];rfl
 have q3:(m.kind == 3)=false:=by rw [He];rfl
 clear ht hg Hi Hj He
 have Hv:=zAu hf
 have HV:=mA hr
 have HX:=mA hx
 have HF:=mA hf
 obtain ⟨A0,n0,c0,A1,c1,A2,c2,A3,c3,A4,c4,rfl,rfl,rfl,rfl,rfl⟩:=hr.forms
 obtain ⟨A,c,rfl,_,_⟩:=hx.ex
 clear hr hf hx
 go_enter Tryd.func12,Tryd.ntmps12
 go_wp2_with fail
 have h0:Below w.heap.size w (((w.alloc (.cells (rN r A0 n0 c0 A1 c1 A2 c2 A3 c3 A4 c4) 30)).alloc (.cells (mN m A m.log.length c) 43)).alloc (.cells zR 30)):=zAr w _ _ _
 refine (zAz _ _ _ _ _ r _ B (HV.out.below h0) HF.out).mono ?_;rintro en w1 ⟨⟨gw,gr,lu,hu,wu,gu,nu,rfl,hW,_⟩,h1⟩
 have e2:(((w.alloc (.cells (rN r A0 n0 c0 A1 c1 A2 c2 A3 c3 A4 c4) 30)).alloc (.cells (mN m A m.log.length c) 43)).alloc (.cells zR 30)).heap.size=w.heap.size+3:=by simp
 rw [e2] at hW
 have hs:Blk w1 w.heap.size 30 (rN r A0 n0 c0 A1 c1 A2 c2 A3 c3 A4 c4):=(((Blk.new w _ _).alloc _).alloc _).same h1
 have hk:Blk w1 (w.heap.size+1) 43 (mN m A m.log.length c):=((Blk.new' (by simp)).alloc _).same h1
 have hz:Blk w1 (w.heap.size+2) 30 zR:=(Blk.new' (by simp)).same h1
 have hb:=h0.trans (h1.mono h0.size)
 have Hk:w.heap.size+3<=w1.heap.size:=by have:=h1.size;rw [e2] at this;exact this
 have H1:=mA (mB hW (mB hs (mB hk (mB hz (mB hb Hk)))))
 obtain ⟨k0,k1,k2,k3,k4,k5,k6,k7⟩:=cz8 hk
 have kl:=hk.lt
 clear h1 h0 hs hz hb hW e2 Hk HF hk
 go_wp2_with fail
 refine (zBa _ m w1 B (HX.out.below H1.out.2.2.2.2.1) 0 HG.out).mono ?_;rintro en w2 ⟨rfl,h2⟩
 have H2:=mA (show Work w2 (w.heap.size+3) gw gr r lu hu wu gu nu (.slice none 0 0) [] []/\Blk w2 w.heap.size 30 (rN r A0 n0 c0 A1 c1 A2 c2 A3 c3 A4 c4)/\Blk w2 (w.heap.size+1) 43 (mN m A m.log.length c)/\Blk w2 (w.heap.size+2) 30 zR/\Below w.heap.size w w2/\w.heap.size+3<=w2.heap.size from
  ⟨H1.out.1.below h2,H1.out.2.1.same h2,H1.out.2.2.1.same h2,H1.out.2.2.2.1.same h2,H1.out.2.2.2.2.1.trans (h2.mono H1.out.2.2.2.2.1.size),mD H1.out.2.2.2.2.2 h2.size⟩)
 clear h2 k0 k1 k2 k3 k4 k5 k6 k7 kl
 have hs:=H2.out.2.1
 obtain ⟨s0,s1⟩:=cz2 hs
 have sl:=hs.lt
 have hk:=H2.out.2.2.1
 obtain ⟨k0,-,k2,k3⟩:=cz4 hk
 have kl:=hk.lt
 clear hs hk
 have H3:=mA (show Work w2 (w.heap.size+3) gw gr r lu hu wu gu nu (.slice none 0 0) [] []/\Blk w2 (w.heap.size+1) 43 (mN m A m.log.length c)/\Blk w2 (w.heap.size+2) 30 zR/\Below w.heap.size w w2/\w.heap.size+3<=w2.heap.size from
  ⟨H2.out.1,H2.out.2.2.1,H2.out.2.2.2.1,H2.out.2.2.2.2.1,H2.out.2.2.2.2.2⟩)
 clear k0 k2 k3 kl
 have hk:=H3.out.2.1
 obtain ⟨k0,k1,k2,k3,k4,k5,k6,k7⟩:=cz8 hk
 have kl:=hk.lt
 clear hk
 have Hl:m.from_≠r.me:=fun e=>Hh.out.2.2.2.2.1 (e.trans HT.out.symm)
 have Hm:0<=m.from_:=Hh.out.2.2.1.1
 have Hn:m.from_ < 3:=by have:=Hh.out.2.2.1;unfold Scu.InR at this;omega
 have Hr:=mA (mB Hl (mB Hm Hn))
 have Hs:=mA (((LowStrs.of HX.out).keep H3.out.2.2.2.1).up (show w.heap.size<=w.heap.size+3 by omega))
 clear Hl Hm Hn
 go_wp2_with fail
 refine (zKe w2 (w.heap.size+3) gw gr r m A c [] H3.out.1.e H3.out.2.2.2.2 Hq.out Hs.out Hr.out.1 (by simp [R47])).mono ?_;rintro en w3 ⟨rfl,Ha,h3⟩
 rw [List.nil_append,Hp.out] at Ha
 have Hb:Blk w3 (w.heap.size+2) 30 zR:=H3.out.2.2.1.below h3 (by omega)
 have Ho:Below w.heap.size w w3:=H3.out.2.2.2.1.trans (h3.mono (by omega))
 clear h3 k0 k1 k2 k3 k4 k5 k6 k7 kl s0 s1 sl
 obtain ⟨lu3,Hw,wv3,gv3,nv3,ov3,css3,Ha⟩:=Ha
 obtain ⟨Ao,co,rfl⟩:=Ha.out.form
 obtain ⟨E0,m0,d0,E1,d1,E2,d2,E3,d3,E4,d4,rfl,rfl,rfl,rfl,rfl⟩:=Ha.own.is.forms
 have Hf:=Ha.wb
 have Hg:=Ha.rb
 obtain ⟨f0,f1⟩:=cz2 Hf
 have fl:=Hf.lt
 obtain ⟨k0,k1,k2,k3,k4,k5,k6,k7,k8,k9⟩:=cz10 Hg
 have kz:=Hg.frozen
 have kl:=Hg.lt
 obtain ⟨z0,z1,z2,z3,z4,z5,z6,z7,z8,z9⟩:=cz10 Hb
 have zz:=Hb.frozen
 have zl:=Hb.lt
 have hr:=zAj (a0:=.int .i64 rr.me) (a1:=.int .i64 rr.kept.view) (a2:=.int .i64 rr.kept.normal) (a3:=.bool rr.kept.calm) (a4:=.slice E0 m0 d0) (a5:=.int .i64 rr.kept.commit) (a6:=.slice E1 rr.have_.length d1) (a7:=.slice E2 rr.wants.length d2) (a8:=.slice E3 rr.gives.length d3) (a9:=.slice E4 rr.given.length d4) Hb
 have Hc:=Same.sets10 (Ts:=[9,3,4,25,43,68]) (B:=0) (a0:=.int .i64 rr.me) (a1:=.int .i64 rr.kept.view) (a2:=.int .i64 rr.kept.normal) (a3:=.bool rr.kept.calm) (a4:=.slice E0 m0 d0) (a5:=.int .i64 rr.kept.commit) (a6:=.slice E1 rr.have_.length d1) (a7:=.slice E2 rr.wants.length d2) (a8:=.slice E3 rr.gives.length d3) (a9:=.slice E4 rr.given.length d4) Hb (mE _) (by decide)
 have Hd:=zAd Hf Hc (by simp)
 obtain ⟨q0,q1⟩:=cz2 Hd
 have hT:=Ha.own.is.same (Hc.mono (by simp) (mC _))
 have hO:=Ha.out.is.same (Ts:=[9,43]) (by simp) (Hc.mono (by simp) (mC _)) (fun _ _ h=>h.same (Ts:=[9,43]) (by simp) (Hc.mono (by simp) (mC _)))
 have hL:=zAf (a0:=.int .i64 rr.me) (a1:=.int .i64 rr.kept.view) (a2:=.int .i64 rr.kept.normal) (a3:=.bool rr.kept.calm) (a4:=.slice E0 m0 d0) (a5:=.int .i64 rr.kept.commit) (a6:=.slice E1 rr.have_.length d1) (a7:=.slice E2 rr.wants.length d2) (a8:=.slice E3 rr.gives.length d3) (a9:=.slice E4 rr.given.length d4) Ho (show w.heap.size<=w.heap.size+2 by omega)
 obtain ⟨r0,r1,r2,r3,r4,r5,r6,r7,r8,r9⟩:=cz10 hr
 have rz:=hr.frozen
 have rl:=hr.lt
 have hA:∀ g,(Value.slice Ao ms.length co).ownBlock=some g->w.heap.size<=g:=fun g hg=>by have:=(Ha.out.row.lt g hg).1;omega
 have HT:=mA (mB hT (mB hO (mB hL hA)))
 clear hr Hc hT hO hL Hf Hg Ha Hb Ho Hd hA
 go_wp2_with fail
 go_region
 go_wp2
 refine bodyPost_ret (v:=.tuple #[.agg (rN rr E0 m0 d0 E1 d1 E2 d2 E3 d3 E4 d4),.slice Ao ms.length co,.int .i64 0]) (by simp [results,Tryd.results12,go_sem,r0,r1,r2,r3,r4,r5,r6,r7,r8,r9]) rfl ?_
 exact ⟨⟨_,_,_,_,_,_,rfl,HT.out.1.same (Same.drew _),HT.out.2.1.same (Ts:=[9,43]) (by simp) (Same.drew _) (fun _ _ h=>h.same (Ts:=[9]) (by simp) (Same.drew _)),HT.out.2.2.2⟩,HT.out.2.2.1.drew⟩
theorem zMx (lv hv wv gv nv xv:Value) (r:Scu.Replica) (m:Scu.Message) (w:World) (B:Nat) (hr:IsRep w B lv hv wv gv nv r) (hx:IsStrs w B xv m.log) (hf:Scu.repFault r=0) (hg:Scu.msgFault m=0) (ht:m.tq=r.me) (Hi:¬ m.view < r.kept.view) (rr:Scu.Replica) (ms:List Scu.Message) (He:m.kind=2) (Hj:Scu.hearHas r m=(rr,ms)) :
 Calls Tryd.prog 12 #[.agg #[.int .i64 r.me,.int .i64 r.kept.view,.int .i64 r.kept.normal,.bool r.kept.calm,lv,.int .i64 r.kept.commit,hv,wv,gv,nv],.agg #[.int .i64 m.kind,.int .i64 m.from_,.int .i64 m.tq,.int .i64 m.view,.int .i64 m.normal,.int .i64 m.commit,.int .i64 m.n,xv]] w fun e w'=>TellN w.heap.size w' rr ms 0 e/\Below w.heap.size w w':=by
 have Ht:(m.tq != r.me)=false:=by simpa using ht
 have Hu:decide (m.view < r.kept.view)=false:=by simpa using Hi
 have HG:=mA hg
 have Hh:=mA (Scu.msgFault_ok hg)
 have HT:=mA ht
 have Hq:=mA Hj
 have Hr:=mA (zCe hf)
 have q1:(m.kind == 1)=false:=by rw [He];rfl
 have q2:(m.kind == 2)=true:=by rw [He];rfl
 have q3:(m.kind == 3)=false:=by rw [He];rfl
 clear ht hg Hi Hj He
 have Hs:=zAu hf
 have HV:=mA hr
 have HX:=mA hx
 have HF:=mA hf
 obtain ⟨A0,n0,c0,A1,c1,A2,c2,A3,c3,A4,c4,rfl,rfl,rfl,rfl,rfl⟩:=hr.forms
 obtain ⟨A,c,rfl,_,_⟩:=hx.ex
 clear hr hf hx
 go_enter Tryd.func12,Tryd.ntmps12
 go_wp2_with fail
 have h0:Below w.heap.size w (((w.alloc (.cells (rN r A0 n0 c0 A1 c1 A2 c2 A3 c3 A4 c4) 30)).alloc (.cells (mN m A m.log.length c) 43)).alloc (.cells zR 30)):=zAr w _ _ _
 refine (zAz _ _ _ _ _ r _ B (HV.out.below h0) HF.out).mono ?_;rintro en w1 ⟨⟨gw,gr,lu,hu,wu,gu,nu,rfl,hW,_⟩,h1⟩
 have e2:(((w.alloc (.cells (rN r A0 n0 c0 A1 c1 A2 c2 A3 c3 A4 c4) 30)).alloc (.cells (mN m A m.log.length c) 43)).alloc (.cells zR 30)).heap.size=w.heap.size+3:=by simp
 rw [e2] at hW
 have hs:Blk w1 w.heap.size 30 (rN r A0 n0 c0 A1 c1 A2 c2 A3 c3 A4 c4):=(((Blk.new w _ _).alloc _).alloc _).same h1
 have hk:Blk w1 (w.heap.size+1) 43 (mN m A m.log.length c):=((Blk.new' (by simp)).alloc _).same h1
 have hz:Blk w1 (w.heap.size+2) 30 zR:=(Blk.new' (by simp)).same h1
 have hb:=h0.trans (h1.mono h0.size)
 have Hk:w.heap.size+3<=w1.heap.size:=by have:=h1.size;rw [e2] at this;exact this
 have H1:=mA (mB hW (mB hs (mB hk (mB hz (mB hb Hk)))))
 obtain ⟨k0,k1,k2,k3,k4,k5,k6,k7⟩:=cz8 hk
 have kl:=hk.lt
 clear h1 h0 hs hz hb hW e2 Hk HF hk
 go_wp2_with fail
 refine (zBa _ m w1 B (HX.out.below H1.out.2.2.2.2.1) 0 HG.out).mono ?_;rintro en w2 ⟨rfl,h2⟩
 have H2:=mA (show Work w2 (w.heap.size+3) gw gr r lu hu wu gu nu (.slice none 0 0) [] []/\Blk w2 w.heap.size 30 (rN r A0 n0 c0 A1 c1 A2 c2 A3 c3 A4 c4)/\Blk w2 (w.heap.size+1) 43 (mN m A m.log.length c)/\Blk w2 (w.heap.size+2) 30 zR/\Below w.heap.size w w2/\w.heap.size+3<=w2.heap.size from
  ⟨H1.out.1.below h2,H1.out.2.1.same h2,H1.out.2.2.1.same h2,H1.out.2.2.2.1.same h2,H1.out.2.2.2.2.1.trans (h2.mono H1.out.2.2.2.2.1.size),mD H1.out.2.2.2.2.2 h2.size⟩)
 clear h2 k0 k1 k2 k3 k4 k5 k6 k7 kl
 have hs:=H2.out.2.1
 obtain ⟨s0,s1⟩:=cz2 hs
 have sl:=hs.lt
 have hk:=H2.out.2.2.1
 obtain ⟨k0,-,k2,k3⟩:=cz4 hk
 have kl:=hk.lt
 clear hs hk
 have H3:=mA (show Work w2 (w.heap.size+3) gw gr r lu hu wu gu nu (.slice none 0 0) [] []/\Blk w2 (w.heap.size+1) 43 (mN m A m.log.length c)/\Blk w2 (w.heap.size+2) 30 zR/\Below w.heap.size w w2/\w.heap.size+3<=w2.heap.size from
  ⟨H2.out.1,H2.out.2.2.1,H2.out.2.2.2.1,H2.out.2.2.2.2.1,H2.out.2.2.2.2.2⟩)
 clear k0 k2 k3 kl
 have hk:=H3.out.2.1
 obtain ⟨k0,k1,k2,k3,k4,k5,k6,k7⟩:=cz8 hk
 have kl:=hk.lt
 clear hk
 have Hl:m.from_≠r.me:=fun e=>Hh.out.2.2.2.2.1 (e.trans HT.out.symm)
 have Hm:0<=m.from_:=Hh.out.2.2.1.1
 have Hn:m.from_ < 3:=by have:=Hh.out.2.2.1;unfold Scu.InR at this;omega
 have Ho:=mA (mB Hl (mB Hm Hn))
 have Hv:=mA (((LowStrs.of HX.out).keep H3.out.2.2.2.1).up (show w.heap.size<=w.heap.size+3 by omega))
 clear Hl Hm Hn
 go_wp2_with fail
 refine (zLr w2 (w.heap.size+3) gw gr r m A m.log.length c [] H3.out.1.e H3.out.2.2.2.2 Hr.out Hs Ho.out.2.1 Ho.out.2.2 (by simp [R47])).mono ?_;rintro en w3 ⟨rfl,Ha,h3⟩
 rw [List.nil_append,Hq.out] at Ha
 have Hb:Blk w3 (w.heap.size+2) 30 zR:=H3.out.2.2.1.below h3 (by omega)
 have Hp:Below w.heap.size w w3:=H3.out.2.2.2.1.trans (h3.mono (by omega))
 clear h3 k0 k1 k2 k3 k4 k5 k6 k7 kl s0 s1 sl
 obtain ⟨lu3,Hw,wv3,gv3,nv3,ov3,css3,Ha⟩:=Ha
 obtain ⟨Ao,co,rfl⟩:=Ha.out.form
 obtain ⟨E0,m0,d0,E1,d1,E2,d2,E3,d3,E4,d4,rfl,rfl,rfl,rfl,rfl⟩:=Ha.own.is.forms
 have Hf:=Ha.wb
 have Hg:=Ha.rb
 obtain ⟨f0,f1⟩:=cz2 Hf
 have fl:=Hf.lt
 obtain ⟨k0,k1,k2,k3,k4,k5,k6,k7,k8,k9⟩:=cz10 Hg
 have kz:=Hg.frozen
 have kl:=Hg.lt
 obtain ⟨z0,z1,z2,z3,z4,z5,z6,z7,z8,z9⟩:=cz10 Hb
 have zz:=Hb.frozen
 have zl:=Hb.lt
 have hr:=zAj (a0:=.int .i64 rr.me) (a1:=.int .i64 rr.kept.view) (a2:=.int .i64 rr.kept.normal) (a3:=.bool rr.kept.calm) (a4:=.slice E0 m0 d0) (a5:=.int .i64 rr.kept.commit) (a6:=.slice E1 rr.have_.length d1) (a7:=.slice E2 rr.wants.length d2) (a8:=.slice E3 rr.gives.length d3) (a9:=.slice E4 rr.given.length d4) Hb
 have Hc:=Same.sets10 (Ts:=[9,3,4,25,43,68]) (B:=0) (a0:=.int .i64 rr.me) (a1:=.int .i64 rr.kept.view) (a2:=.int .i64 rr.kept.normal) (a3:=.bool rr.kept.calm) (a4:=.slice E0 m0 d0) (a5:=.int .i64 rr.kept.commit) (a6:=.slice E1 rr.have_.length d1) (a7:=.slice E2 rr.wants.length d2) (a8:=.slice E3 rr.gives.length d3) (a9:=.slice E4 rr.given.length d4) Hb (mE _) (by decide)
 have Hd:=zAd Hf Hc (by simp)
 obtain ⟨q0,q1⟩:=cz2 Hd
 have hT:=Ha.own.is.same (Hc.mono (by simp) (mC _))
 have hO:=Ha.out.is.same (Ts:=[9,43]) (by simp) (Hc.mono (by simp) (mC _)) (fun _ _ h=>h.same (Ts:=[9,43]) (by simp) (Hc.mono (by simp) (mC _)))
 have hL:=zAf (a0:=.int .i64 rr.me) (a1:=.int .i64 rr.kept.view) (a2:=.int .i64 rr.kept.normal) (a3:=.bool rr.kept.calm) (a4:=.slice E0 m0 d0) (a5:=.int .i64 rr.kept.commit) (a6:=.slice E1 rr.have_.length d1) (a7:=.slice E2 rr.wants.length d2) (a8:=.slice E3 rr.gives.length d3) (a9:=.slice E4 rr.given.length d4) Hp (show w.heap.size<=w.heap.size+2 by omega)
 obtain ⟨r0,r1,r2,r3,r4,r5,r6,r7,r8,r9⟩:=cz10 hr
 have rz:=hr.frozen
 have rl:=hr.lt
 have hA:∀ g,(Value.slice Ao ms.length co).ownBlock=some g->w.heap.size<=g:=fun g hg=>by have:=(Ha.out.row.lt g hg).1;omega
 have HT:=mA (mB hT (mB hO (mB hL hA)))
 clear hr Hc hT hO hL Hf Hg Ha Hb Hp Hd hA
 go_wp2_with fail
 go_region
 go_wp2
 refine bodyPost_ret (v:=.tuple #[.agg (rN rr E0 m0 d0 E1 d1 E2 d2 E3 d3 E4 d4),.slice Ao ms.length co,.int .i64 0]) (by simp [results,Tryd.results12,go_sem,r0,r1,r2,r3,r4,r5,r6,r7,r8,r9]) rfl ?_
 exact ⟨⟨_,_,_,_,_,_,rfl,HT.out.1.same (Same.drew _),HT.out.2.1.same (Ts:=[9,43]) (by simp) (Same.drew _) (fun _ _ h=>h.same (Ts:=[9]) (by simp) (Same.drew _)),HT.out.2.2.2⟩,HT.out.2.2.1.drew⟩
theorem zMy (lv hv wv gv nv xv:Value) (r:Scu.Replica) (m:Scu.Message) (w:World) (B:Nat) (hr:IsRep w B lv hv wv gv nv r) (hx:IsStrs w B xv m.log) (hf:Scu.repFault r=0) (hg:Scu.msgFault m=0) (ht:m.tq=r.me) (Hi:¬ m.view < r.kept.view) (rr:Scu.Replica) (ms:List Scu.Message) (He:m.kind=3) (Hj:Scu.hearWant r m=(rr,ms)) :
 Calls Tryd.prog 12 #[.agg #[.int .i64 r.me,.int .i64 r.kept.view,.int .i64 r.kept.normal,.bool r.kept.calm,lv,.int .i64 r.kept.commit,hv,wv,gv,nv],.agg #[.int .i64 m.kind,.int .i64 m.from_,.int .i64 m.tq,.int .i64 m.view,.int .i64 m.normal,.int .i64 m.commit,.int .i64 m.n,xv]] w fun e w'=>TellN w.heap.size w' rr ms 0 e/\Below w.heap.size w w':=by
 have Ht:(m.tq != r.me)=false:=by simpa using ht
 have Hu:decide (m.view < r.kept.view)=false:=by simpa using Hi
 have HG:=mA hg
 have Hh:=mA (Scu.msgFault_ok hg)
 have HT:=mA ht
 have Hq:=mA Hj
 have Hr:=mA (zCe hf)
 have q1:(m.kind == 1)=false:=by rw [He];rfl
 have q2:(m.kind == 2)=false:=by rw [He];rfl
 have q3:(m.kind == 3)=true:=by rw [He];rfl
 clear ht hg Hi Hj He
 have Hs:=zAu hf
 have HV:=mA hr
 have HX:=mA hx
 have HF:=mA hf
 obtain ⟨A0,n0,c0,A1,c1,A2,c2,A3,c3,A4,c4,rfl,rfl,rfl,rfl,rfl⟩:=hr.forms
 obtain ⟨A,c,rfl,_,_⟩:=hx.ex
 clear hr hf hx
 go_enter Tryd.func12,Tryd.ntmps12
 go_wp2_with fail
 have h0:Below w.heap.size w (((w.alloc (.cells (rN r A0 n0 c0 A1 c1 A2 c2 A3 c3 A4 c4) 30)).alloc (.cells (mN m A m.log.length c) 43)).alloc (.cells zR 30)):=zAr w _ _ _
 refine (zAz _ _ _ _ _ r _ B (HV.out.below h0) HF.out).mono ?_;rintro en w1 ⟨⟨gw,gr,lu,hu,wu,gu,nu,rfl,hW,_⟩,h1⟩
 have e2:(((w.alloc (.cells (rN r A0 n0 c0 A1 c1 A2 c2 A3 c3 A4 c4) 30)).alloc (.cells (mN m A m.log.length c) 43)).alloc (.cells zR 30)).heap.size=w.heap.size+3:=by simp
 rw [e2] at hW
 have hs:Blk w1 w.heap.size 30 (rN r A0 n0 c0 A1 c1 A2 c2 A3 c3 A4 c4):=(((Blk.new w _ _).alloc _).alloc _).same h1
 have hk:Blk w1 (w.heap.size+1) 43 (mN m A m.log.length c):=((Blk.new' (by simp)).alloc _).same h1
 have hz:Blk w1 (w.heap.size+2) 30 zR:=(Blk.new' (by simp)).same h1
 have hb:=h0.trans (h1.mono h0.size)
 have Hk:w.heap.size+3<=w1.heap.size:=by have:=h1.size;rw [e2] at this;exact this
 have H1:=mA (mB hW (mB hs (mB hk (mB hz (mB hb Hk)))))
 obtain ⟨k0,k1,k2,k3,k4,k5,k6,k7⟩:=cz8 hk
 have kl:=hk.lt
 clear h1 h0 hs hz hb hW e2 Hk HF hk
 go_wp2_with fail
 refine (zBa _ m w1 B (HX.out.below H1.out.2.2.2.2.1) 0 HG.out).mono ?_;rintro en w2 ⟨rfl,h2⟩
 have H2:=mA (show Work w2 (w.heap.size+3) gw gr r lu hu wu gu nu (.slice none 0 0) [] []/\Blk w2 w.heap.size 30 (rN r A0 n0 c0 A1 c1 A2 c2 A3 c3 A4 c4)/\Blk w2 (w.heap.size+1) 43 (mN m A m.log.length c)/\Blk w2 (w.heap.size+2) 30 zR/\Below w.heap.size w w2/\w.heap.size+3<=w2.heap.size from
  ⟨H1.out.1.below h2,H1.out.2.1.same h2,H1.out.2.2.1.same h2,H1.out.2.2.2.1.same h2,H1.out.2.2.2.2.1.trans (h2.mono H1.out.2.2.2.2.1.size),mD H1.out.2.2.2.2.2 h2.size⟩)
 clear h2 k0 k1 k2 k3 k4 k5 k6 k7 kl
 have hs:=H2.out.2.1
 obtain ⟨s0,s1⟩:=cz2 hs
 have sl:=hs.lt
 have hk:=H2.out.2.2.1
 obtain ⟨k0,-,k2,k3⟩:=cz4 hk
 have kl:=hk.lt
 clear hs hk
 have H3:=mA (show Work w2 (w.heap.size+3) gw gr r lu hu wu gu nu (.slice none 0 0) [] []/\Blk w2 (w.heap.size+1) 43 (mN m A m.log.length c)/\Blk w2 (w.heap.size+2) 30 zR/\Below w.heap.size w w2/\w.heap.size+3<=w2.heap.size from
  ⟨H2.out.1,H2.out.2.2.1,H2.out.2.2.2.1,H2.out.2.2.2.2.1,H2.out.2.2.2.2.2⟩)
 clear k0 k2 k3 kl
 have hk:=H3.out.2.1
 obtain ⟨k0,k1,k2,k3,k4,k5,k6,k7⟩:=cz8 hk
 have kl:=hk.lt
 clear hk
 have Hl:m.from_≠r.me:=fun e=>Hh.out.2.2.2.2.1 (e.trans HT.out.symm)
 have Hm:0<=m.from_:=Hh.out.2.2.1.1
 have Hn:m.from_ < 3:=by have:=Hh.out.2.2.1;unfold Scu.InR at this;omega
 have Ho:=mA (mB Hl (mB Hm Hn))
 have Hv:=mA (((LowStrs.of HX.out).keep H3.out.2.2.2.1).up (show w.heap.size<=w.heap.size+3 by omega))
 clear Hl Hm Hn
 go_wp2_with fail
 refine (zKf w2 (w.heap.size+3) gw gr r m A m.log.length c [] H3.out.1.e H3.out.2.2.2.2 Hr.out Hs Ho.out.2.1 Ho.out.2.2 (by simp [R47])).mono ?_;rintro en w3 ⟨rfl,Ha,h3⟩
 rw [List.nil_append,Hq.out] at Ha
 have Hb:Blk w3 (w.heap.size+2) 30 zR:=H3.out.2.2.1.below h3 (by omega)
 have Hp:Below w.heap.size w w3:=H3.out.2.2.2.1.trans (h3.mono (by omega))
 clear h3 k0 k1 k2 k3 k4 k5 k6 k7 kl s0 s1 sl
 obtain ⟨lu3,Hw,wv3,gv3,nv3,ov3,css3,Ha⟩:=Ha
 obtain ⟨Ao,co,rfl⟩:=Ha.out.form
 obtain ⟨E0,m0,d0,E1,d1,E2,d2,E3,d3,E4,d4,rfl,rfl,rfl,rfl,rfl⟩:=Ha.own.is.forms
 have Hf:=Ha.wb
 have Hg:=Ha.rb
 obtain ⟨f0,f1⟩:=cz2 Hf
 have fl:=Hf.lt
 obtain ⟨k0,k1,k2,k3,k4,k5,k6,k7,k8,k9⟩:=cz10 Hg
 have kz:=Hg.frozen
 have kl:=Hg.lt
 obtain ⟨z0,z1,z2,z3,z4,z5,z6,z7,z8,z9⟩:=cz10 Hb
 have zz:=Hb.frozen
 have zl:=Hb.lt
 have hr:=zAj (a0:=.int .i64 rr.me) (a1:=.int .i64 rr.kept.view) (a2:=.int .i64 rr.kept.normal) (a3:=.bool rr.kept.calm) (a4:=.slice E0 m0 d0) (a5:=.int .i64 rr.kept.commit) (a6:=.slice E1 rr.have_.length d1) (a7:=.slice E2 rr.wants.length d2) (a8:=.slice E3 rr.gives.length d3) (a9:=.slice E4 rr.given.length d4) Hb
 have Hc:=Same.sets10 (Ts:=[9,3,4,25,43,68]) (B:=0) (a0:=.int .i64 rr.me) (a1:=.int .i64 rr.kept.view) (a2:=.int .i64 rr.kept.normal) (a3:=.bool rr.kept.calm) (a4:=.slice E0 m0 d0) (a5:=.int .i64 rr.kept.commit) (a6:=.slice E1 rr.have_.length d1) (a7:=.slice E2 rr.wants.length d2) (a8:=.slice E3 rr.gives.length d3) (a9:=.slice E4 rr.given.length d4) Hb (mE _) (by decide)
 have Hd:=zAd Hf Hc (by simp)
 obtain ⟨q0,q1⟩:=cz2 Hd
 have hT:=Ha.own.is.same (Hc.mono (by simp) (mC _))
 have hO:=Ha.out.is.same (Ts:=[9,43]) (by simp) (Hc.mono (by simp) (mC _)) (fun _ _ h=>h.same (Ts:=[9,43]) (by simp) (Hc.mono (by simp) (mC _)))
 have hL:=zAf (a0:=.int .i64 rr.me) (a1:=.int .i64 rr.kept.view) (a2:=.int .i64 rr.kept.normal) (a3:=.bool rr.kept.calm) (a4:=.slice E0 m0 d0) (a5:=.int .i64 rr.kept.commit) (a6:=.slice E1 rr.have_.length d1) (a7:=.slice E2 rr.wants.length d2) (a8:=.slice E3 rr.gives.length d3) (a9:=.slice E4 rr.given.length d4) Hp (show w.heap.size<=w.heap.size+2 by omega)
 obtain ⟨r0,r1,r2,r3,r4,r5,r6,r7,r8,r9⟩:=cz10 hr
 have rz:=hr.frozen
 have rl:=hr.lt
 have hA:∀ g,(Value.slice Ao ms.length co).ownBlock=some g->w.heap.size<=g:=fun g hg=>by have:=(Ha.out.row.lt g hg).1;omega
 have HT:=mA (mB hT (mB hO (mB hL hA)))
 clear hr Hc hT hO hL Hf Hg Ha Hb Hp Hd hA
 go_wp2_with fail
 go_region
 go_wp2
 refine bodyPost_ret (v:=.tuple #[.agg (rN rr E0 m0 d0 E1 d1 E2 d2 E3 d3 E4 d4),.slice Ao ms.length co,.int .i64 0]) (by simp [results,Tryd.results12,go_sem,r0,r1,r2,r3,r4,r5,r6,r7,r8,r9]) rfl ?_
 exact ⟨⟨_,_,_,_,_,_,rfl,HT.out.1.same (Same.drew _),HT.out.2.1.same (Ts:=[9,43]) (by simp) (Same.drew _) (fun _ _ h=>h.same (Ts:=[9]) (by simp) (Same.drew _)),HT.out.2.2.2⟩,HT.out.2.2.1.drew⟩
theorem zMz (lv hv wv gv nv xv:Value) (r:Scu.Replica) (m:Scu.Message) (w:World) (B:Nat) (hr:IsRep w B lv hv wv gv nv r) (hx:IsStrs w B xv m.log) (hf:Scu.repFault r=0) (hg:Scu.msgFault m=0) (ht:m.tq=r.me) (Hi:¬ m.view < r.kept.view) (rr:Scu.Replica) (ms:List Scu.Message) (He:m.kind=4) (Hj:Scu.hearGive r m=(rr,ms)) :
 Calls Tryd.prog 12 #[.agg #[.int .i64 r.me,.int .i64 r.kept.view,.int .i64 r.kept.normal,.bool r.kept.calm,lv,.int .i64 r.kept.commit,hv,wv,gv,nv],.agg #[.int .i64 m.kind,.int .i64 m.from_,.int .i64 m.tq,.int .i64 m.view,.int .i64 m.normal,.int .i64 m.commit,.int .i64 m.n,xv]] w fun e w'=>TellN w.heap.size w' rr ms 0 e/\Below w.heap.size w w':=by
 have Hu:(m.tq != r.me)=false:=by simpa using ht
 have Hv:decide (m.view < r.kept.view)=false:=by simpa using Hi
 have HG:=mA hg
 have Hh:=mA (Scu.msgFault_ok hg)
 have HT:=mA ht
 have Hq:=mA Hj
 have Hr:=mA (zCe hf)
 have q1:(m.kind == 1)=false:=by rw [He];rfl
 have q2:(m.kind == 2)=false:=by rw [He];rfl
 have q3:(m.kind == 3)=false:=by rw [He];rfl
 clear ht hg Hi Hj He
 have Hs:=zAu hf
 have HV:=mA hr
 have HX:=mA hx
 have HF:=mA hf
 obtain ⟨A0,n0,c0,A1,c1,A2,c2,A3,c3,A4,c4,rfl,rfl,rfl,rfl,rfl⟩:=hr.forms
 obtain ⟨A,c,rfl,_,_⟩:=hx.ex
 clear hr hf hx
 go_enter Tryd.func12,Tryd.ntmps12
 go_wp2_with fail
 have h0:Below w.heap.size w (((w.alloc (.cells (rN r A0 n0 c0 A1 c1 A2 c2 A3 c3 A4 c4) 30)).alloc (.cells (mN m A m.log.length c) 43)).alloc (.cells zR 30)):=zAr w _ _ _
 refine (zAz _ _ _ _ _ r _ B (HV.out.below h0) HF.out).mono ?_;rintro en w1 ⟨⟨gw,gr,lu,hu,wu,gu,nu,rfl,hW,_⟩,h1⟩
 have e2:(((w.alloc (.cells (rN r A0 n0 c0 A1 c1 A2 c2 A3 c3 A4 c4) 30)).alloc (.cells (mN m A m.log.length c) 43)).alloc (.cells zR 30)).heap.size=w.heap.size+3:=by simp
 rw [e2] at hW
 have hs:Blk w1 w.heap.size 30 (rN r A0 n0 c0 A1 c1 A2 c2 A3 c3 A4 c4):=(((Blk.new w _ _).alloc _).alloc _).same h1
 have hk:Blk w1 (w.heap.size+1) 43 (mN m A m.log.length c):=((Blk.new' (by simp)).alloc _).same h1
 have hz:Blk w1 (w.heap.size+2) 30 zR:=(Blk.new' (by simp)).same h1
 have hb:=h0.trans (h1.mono h0.size)
 have Hk:w.heap.size+3<=w1.heap.size:=by have:=h1.size;rw [e2] at this;exact this
 have H1:=mA (mB hW (mB hs (mB hk (mB hz (mB hb Hk)))))
 obtain ⟨k0,k1,k2,k3,k4,k5,k6,k7⟩:=cz8 hk
 have kl:=hk.lt
 clear h1 h0 hs hz hb hW e2 Hk HF hk
 go_wp2_with fail
 refine (zBa _ m w1 B (HX.out.below H1.out.2.2.2.2.1) 0 HG.out).mono ?_;rintro en w2 ⟨rfl,h2⟩
 have H2:=mA (show Work w2 (w.heap.size+3) gw gr r lu hu wu gu nu (.slice none 0 0) [] []/\Blk w2 w.heap.size 30 (rN r A0 n0 c0 A1 c1 A2 c2 A3 c3 A4 c4)/\Blk w2 (w.heap.size+1) 43 (mN m A m.log.length c)/\Blk w2 (w.heap.size+2) 30 zR/\Below w.heap.size w w2/\w.heap.size+3<=w2.heap.size from
  ⟨H1.out.1.below h2,H1.out.2.1.same h2,H1.out.2.2.1.same h2,H1.out.2.2.2.1.same h2,H1.out.2.2.2.2.1.trans (h2.mono H1.out.2.2.2.2.1.size),mD H1.out.2.2.2.2.2 h2.size⟩)
 clear h2 k0 k1 k2 k3 k4 k5 k6 k7 kl
 have hs:=H2.out.2.1
 obtain ⟨s0,s1⟩:=cz2 hs
 have sl:=hs.lt
 have hk:=H2.out.2.2.1
 obtain ⟨k0,-,k2,k3⟩:=cz4 hk
 have kl:=hk.lt
 clear hs hk
 have H3:=mA (show Work w2 (w.heap.size+3) gw gr r lu hu wu gu nu (.slice none 0 0) [] []/\Blk w2 (w.heap.size+1) 43 (mN m A m.log.length c)/\Blk w2 (w.heap.size+2) 30 zR/\Below w.heap.size w w2/\w.heap.size+3<=w2.heap.size from
  ⟨H2.out.1,H2.out.2.2.1,H2.out.2.2.2.1,H2.out.2.2.2.2.1,H2.out.2.2.2.2.2⟩)
 clear k0 k2 k3 kl
 have hk:=H3.out.2.1
 obtain ⟨k0,k1,k2,k3,k4,k5,k6,k7⟩:=cz8 hk
 have kl:=hk.lt
 clear hk
 have Hl:m.from_≠r.me:=fun e=>Hh.out.2.2.2.2.1 (e.trans HT.out.symm)
 have Hm:0<=m.from_:=Hh.out.2.2.1.1
 have Hn:m.from_ < 3:=by have:=Hh.out.2.2.1;unfold Scu.InR at this;omega
 have Ho:=mA (mB Hl (mB Hm Hn))
 have Ht:=mA (((LowStrs.of HX.out).keep H3.out.2.2.2.1).up (show w.heap.size<=w.heap.size+3 by omega))
 clear Hl Hm Hn
 go_wp2_with fail
 refine (zKg w2 (w.heap.size+3) gw gr r m A c [] H3.out.1.e H3.out.2.2.2.2 Hr.out Hs Ho.out.2.1 Ho.out.2.2 Ht.out (by simp [R47])).mono ?_;rintro en w3 ⟨rfl,Ha,h3⟩
 rw [List.nil_append,Hq.out] at Ha
 have Hb:Blk w3 (w.heap.size+2) 30 zR:=H3.out.2.2.1.below h3 (by omega)
 have Hp:Below w.heap.size w w3:=H3.out.2.2.2.1.trans (h3.mono (by omega))
 clear h3 k0 k1 k2 k3 k4 k5 k6 k7 kl s0 s1 sl
 obtain ⟨lu3,Hw,wv3,gv3,nv3,ov3,css3,Ha⟩:=Ha
 obtain ⟨Ao,co,rfl⟩:=Ha.out.form
 obtain ⟨E0,m0,d0,E1,d1,E2,d2,E3,d3,E4,d4,rfl,rfl,rfl,rfl,rfl⟩:=Ha.own.is.forms
 have Hf:=Ha.wb
 have Hg:=Ha.rb
 obtain ⟨f0,f1⟩:=cz2 Hf
 have fl:=Hf.lt
 obtain ⟨k0,k1,k2,k3,k4,k5,k6,k7,k8,k9⟩:=cz10 Hg
 have kz:=Hg.frozen
 have kl:=Hg.lt
 obtain ⟨z0,z1,z2,z3,z4,z5,z6,z7,z8,z9⟩:=cz10 Hb
 have zz:=Hb.frozen
 have zl:=Hb.lt
 have hr:=zAj (a0:=.int .i64 rr.me) (a1:=.int .i64 rr.kept.view) (a2:=.int .i64 rr.kept.normal) (a3:=.bool rr.kept.calm) (a4:=.slice E0 m0 d0) (a5:=.int .i64 rr.kept.commit) (a6:=.slice E1 rr.have_.length d1) (a7:=.slice E2 rr.wants.length d2) (a8:=.slice E3 rr.gives.length d3) (a9:=.slice E4 rr.given.length d4) Hb
 have Hc:=Same.sets10 (Ts:=[9,3,4,25,43,68]) (B:=0) (a0:=.int .i64 rr.me) (a1:=.int .i64 rr.kept.view) (a2:=.int .i64 rr.kept.normal) (a3:=.bool rr.kept.calm) (a4:=.slice E0 m0 d0) (a5:=.int .i64 rr.kept.commit) (a6:=.slice E1 rr.have_.length d1) (a7:=.slice E2 rr.wants.length d2) (a8:=.slice E3 rr.gives.length d3) (a9:=.slice E4 rr.given.length d4) Hb (mE _) (by decide)
 have Hd:=zAd Hf Hc (by simp)
 obtain ⟨q0,q1⟩:=cz2 Hd
 have hT:=Ha.own.is.same (Hc.mono (by simp) (mC _))
 have hO:=Ha.out.is.same (Ts:=[9,43]) (by simp) (Hc.mono (by simp) (mC _)) (fun _ _ h=>h.same (Ts:=[9,43]) (by simp) (Hc.mono (by simp) (mC _)))
 have hL:=zAf (a0:=.int .i64 rr.me) (a1:=.int .i64 rr.kept.view) (a2:=.int .i64 rr.kept.normal) (a3:=.bool rr.kept.calm) (a4:=.slice E0 m0 d0) (a5:=.int .i64 rr.kept.commit) (a6:=.slice E1 rr.have_.length d1) (a7:=.slice E2 rr.wants.length d2) (a8:=.slice E3 rr.gives.length d3) (a9:=.slice E4 rr.given.length d4) Hp (show w.heap.size<=w.heap.size+2 by omega)
 obtain ⟨r0,r1,r2,r3,r4,r5,r6,r7,r8,r9⟩:=cz10 hr
 have rz:=hr.frozen
 have rl:=hr.lt
 have hA:∀ g,(Value.slice Ao ms.length co).ownBlock=some g->w.heap.size<=g:=fun g hg=>by have:=(Ha.out.row.lt g hg).1;omega
 have HT:=mA (mB hT (mB hO (mB hL hA)))
 clear hr Hc hT hO hL Hf Hg Ha Hb Hp Hd hA
 go_wp2_with fail
 go_region
 go_wp2
 refine bodyPost_ret (v:=.tuple #[.agg (rN rr E0 m0 d0 E1 d1 E2 d2 E3 d3 E4 d4),.slice Ao ms.length co,.int .i64 0]) (by simp [results,Tryd.results12,go_sem,r0,r1,r2,r3,r4,r5,r6,r7,r8,r9]) rfl ?_
 exact ⟨⟨_,_,_,_,_,_,rfl,HT.out.1.same (Same.drew _),HT.out.2.1.same (Ts:=[9,43]) (by simp) (Same.drew _) (fun _ _ h=>h.same (Ts:=[9]) (by simp) (Same.drew _)),HT.out.2.2.2⟩,HT.out.2.2.1.drew⟩
theorem zNa (lv hv wv gv nv xv:Value) (r:Scu.Replica) (m:Scu.Message) (w:World) (B:Nat) (hr:IsRep w B lv hv wv gv nv r) (hx:IsStrs w B xv m.log) :
 Calls Tryd.prog 12 #[.agg #[.int .i64 r.me,.int .i64 r.kept.view,.int .i64 r.kept.normal,.bool r.kept.calm,lv,.int .i64 r.kept.commit,hv,wv,gv,nv],.agg #[.int .i64 m.kind,.int .i64 m.from_,.int .i64 m.tq,.int .i64 m.view,.int .i64 m.normal,.int .i64 m.commit,.int .i64 m.n,xv]] w fun e w'=>TellN w.heap.size w' (Scu.hear r m).1 (Scu.hear r m).2.1 (Scu.hear r m).2.2 e/\Below w.heap.size w w':=by
 by_cases hf:Scu.repFault r=0
 ·by_cases hg:Scu.msgFault m=0
  ·by_cases ht:m.tq=r.me
   ·by_cases Ha:m.view < r.kept.view
    ·have e:Scu.hear r m=(Scu.replica0,[],9):=by unfold Scu.hear;rw [if_neg (fun h=>h hf),if_neg (fun h=>h hg),if_neg (fun h=>h ht),if_pos Ha]
     rw [e]
     exact zMv lv hv wv gv nv xv r m w B hr hx hf hg ht Ha
    have e:Scu.hear r m=((Scu.hearIt r m).1,(Scu.hearIt r m).2,0):=by unfold Scu.hear;rw [if_neg (fun h=>h hf),if_neg (fun h=>h hg),if_neg (fun h=>h ht),if_neg Ha]
    rw [e]
    have hk:=Scu.msgFault_ok hg
    have h4:m.kind=1\/m.kind=2\/m.kind=3\/m.kind=4:=by have:=hk.1;have:=hk.2.1;omega
    unfold Scu.hearIt
    rcases h4 with h | h | h | h
    ·rw [if_pos h]
     exact zMw lv hv wv gv nv xv r m w B hr hx hf hg ht Ha _ _ h rfl
    ·rw [if_neg (by omega),if_pos h]
     exact zMx lv hv wv gv nv xv r m w B hr hx hf hg ht Ha _ _ h rfl
    ·rw [if_neg (by omega),if_neg (by omega),if_pos h]
     exact zMy lv hv wv gv nv xv r m w B hr hx hf hg ht Ha _ _ h rfl
    rw [if_neg (by omega),if_neg (by omega),if_neg (by omega)]
    exact zMz lv hv wv gv nv xv r m w B hr hx hf hg ht Ha _ _ h rfl
   have e:Scu.hear r m=(Scu.replica0,[],6):=by unfold Scu.hear;rw [if_neg (fun h=>h hf),if_neg (fun h=>h hg),if_pos ht]
   rw [e]
   exact zMu lv hv wv gv nv xv r m w B hr hx hf hg ht
  have e:Scu.hear r m=(Scu.replica0,[],Scu.msgFault m):=by unfold Scu.hear;rw [if_neg (fun h=>h hf),if_pos hg]
  rw [e]
  exact zMt lv hv wv gv nv xv r m w B hr hx hf _ rfl hg
 have e:Scu.hear r m=(Scu.replica0,[],Scu.repFault r):=by unfold Scu.hear;rw [if_pos hf]
 rw [e]
 exact zMs lv hv wv gv nv xv r m w B hr hx _ rfl hf
end Go.Proofs.YtjnjhmkgfjikfaaDoor
