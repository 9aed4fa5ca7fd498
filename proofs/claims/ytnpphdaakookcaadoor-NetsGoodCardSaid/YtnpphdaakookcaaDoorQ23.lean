/- Part 23: words and walks under the laws of the whole. -/
import Derived.Test.YtnpphdaakookcaaDoorQ20
import Derived.Test.YtnpphdaakookcaaDoorQ22
set_option linter.unusedVariables false
set_option linter.unusedSimpArgs false
set_option maxHeartbeats 4000000
set_option maxRecDepth 100000
namespace Go.Proofs.YtnpphdaakookcaaDoor
open Go.RowKit
theorem zJq (v:Value) (l:List Scu.Str) (w:World) (B:Nat) (hv:IsStrs w B v l) (k:Scu.Kept) (g a e:Int) (h:Scu.load l=(k,g,a,e)) :
 Calls Tryd.prog 15 #[v] w fun en w'=>(∃ Al nl cl,en=.returned (.tuple #[.agg #[.int .i64 k.view,.int .i64 k.normal,.bool k.calm,.slice Al nl cl,.int .i64 k.commit],.int .i64 g,.int .i64 a,.int .i64 e])/\IsStrs w' 0 (.slice Al nl cl) k.log)/\Below w.heap.size w w':=by
 have:=zJp v l w B hv
 rw [h] at this
 refine this.mono ?_
 rintro en w' ⟨⟨lv,rfl,ho⟩,hb⟩
 obtain ⟨A,n,c,e'⟩:=ho.is.form
 dsimp only at e' ho ⊢
 subst e'
 exact ⟨⟨_,_,_,rfl,ho.is⟩,hb⟩
theorem zPx (A:Option Addr) (n c:Nat) (me:Int) (k:Scu.Kept) (w:World) (B:Nat) (hk:IsStrs w B (.slice A n c) k.log) (rr:Scu.Replica) (f:Int) (h:Scu.repNew me k=(rr,f)) :
 Calls Tryd.prog 29 #[.int .i64 me,.agg #[.int .i64 k.view,.int .i64 k.normal,.bool k.calm,.slice A n c,.int .i64 k.commit]] w fun e w'=>(∃ lu hv wv gv nv,e=.returned (.tuple #[.agg #[.int .i64 rr.me,.int .i64 rr.kept.view,.int .i64 rr.kept.normal,.bool rr.kept.calm,lu,.int .i64 rr.kept.commit,hv,wv,gv,nv],.int .i64 f])/\IsRep w' 0 lu hv wv gv nv rr)/\Below w.heap.size w w':=by
 have:=zVq (.slice A n c) me k w B hk
 rw [h] at this
 exact this
theorem zCo {r:Scu.Replica} {w:World} {B:Nat} {lu hv wv gv nv:Value} (h:IsRep w B lu hv wv gv nv r):∀ v ∈ repV r lu hv wv gv nv,v.oneCell'=true:=by
 obtain ⟨A0,n0,c0,A1,c1,A2,c2,A3,c3,A4,c4,rfl,rfl,rfl,rfl,rfl⟩:=h.forms
 intro v hv
 simp only [repV,List.mem_cons,List.not_mem_nil,or_false] at hv
 rcases hv with rfl | rfl | rfl | rfl | rfl | rfl | rfl | rfl | rfl | rfl <;> rfl
theorem zAm {w:World} {g i:Nat} {q:Addr} (h:q.block≠g) {u:Value} : (w.setCell ⟨g,i,none⟩ u).cell? q=w.cell? q:=World.cell?_of_block (Below.heap_setCell w ⟨g,i,none⟩ u q.block h)
theorem zTh {w:World} {g:Nat} {q:Addr} (h:q.block≠g) {o0 o1 o2 o3 o4 o5 o6 o7 o8 o9:Nat} {x0 x1 x2 x3 x4 x5 x6 x7 x8 x9:Value} : ((((((((((w.setCell ⟨g,o0,none⟩ x0).setCell ⟨g,o1,none⟩ x1).setCell ⟨g,o2,none⟩ x2).setCell ⟨g,o3,none⟩ x3).setCell ⟨g,o4,none⟩ x4).setCell ⟨g,o5,none⟩ x5).setCell ⟨g,o6,none⟩ x6).setCell ⟨g,o7,none⟩ x7).setCell ⟨g,o8,none⟩ x8).setCell ⟨g,o9,none⟩ x9).cell? q=w.cell? q:=by
 rw [zAm h,zAm h,zAm h,zAm h,zAm h,zAm h,zAm h,zAm h,zAm h,zAm h]
theorem zTi {W:World} {g o:Nat} (h:W.there g o 10):∃ u0 u1 u2 u3 u4 u5 u6 u7 u8 u9,(W.cell? ⟨g,o,none⟩=some u0/\W.cell? ⟨g,o+1,none⟩=some u1/\W.cell? ⟨g,o+2,none⟩=some u2/\W.cell? ⟨g,o+3,none⟩=some u3/\W.cell? ⟨g,o+4,none⟩=some u4/\W.cell? ⟨g,o+5,none⟩=some u5/\W.cell? ⟨g,o+6,none⟩=some u6/\W.cell? ⟨g,o+7,none⟩=some u7/\W.cell? ⟨g,o+8,none⟩=some u8/\W.cell? ⟨g,o+9,none⟩=some u9)/\(W.frozen? ⟨g,o,none⟩=false/\W.frozen? ⟨g,o+1,none⟩=false/\W.frozen? ⟨g,o+2,none⟩=false/\W.frozen? ⟨g,o+3,none⟩=false/\W.frozen? ⟨g,o+4,none⟩=false/\W.frozen? ⟨g,o+5,none⟩=false/\W.frozen? ⟨g,o+6,none⟩=false/\W.frozen? ⟨g,o+7,none⟩=false/\W.frozen? ⟨g,o+8,none⟩=false/\W.frozen? ⟨g,o+9,none⟩=false):=by
 have hs:=fun j hj=>Option.isSome_iff_exists.1 (h j hj).1
 obtain ⟨u0,h0⟩:=hs 0 (by decide)
 obtain ⟨u1,h1⟩:=hs 1 (by decide)
 obtain ⟨u2,h2⟩:=hs 2 (by decide)
 obtain ⟨u3,h3⟩:=hs 3 (by decide)
 obtain ⟨u4,h4⟩:=hs 4 (by decide)
 obtain ⟨u5,h5⟩:=hs 5 (by decide)
 obtain ⟨u6,h6⟩:=hs 6 (by decide)
 obtain ⟨u7,h7⟩:=hs 7 (by decide)
 obtain ⟨u8,h8⟩:=hs 8 (by decide)
 obtain ⟨u9,h9⟩:=hs 9 (by decide)
 exact ⟨u0,u1,u2,u3,u4,u5,u6,u7,u8,u9,⟨h0,h1,h2,h3,h4,h5,h6,h7,h8,h9⟩,(h 0 (by decide)).2,(h 1 (by decide)).2,(h 2 (by decide)).2,(h 3 (by decide)).2,(h 4 (by decide)).2,(h 5 (by decide)).2,(h 6 (by decide)).2,(h 7 (by decide)).2,(h 8 (by decide)).2,(h 9 (by decide)).2⟩
theorem zHm (r:Nat) (w:World) (base gx:Nat) (x:Scu.Net) (rv sv fv cv tv:Value) (hN:NetW w base gx x rv sv fv cv tv) (hb:base<=w.heap.size) (hr:r < x.replicas.length) (hs:r < x.slots.length) (Hk:x.replicas.length=3) (y:Scu.Net) (f:Int) (hy:Scu.crash x r=(y,f)) :
 Calls Tryd.prog 66 #[.pointer (some ⟨gx,0,none⟩),.int .i64 r] w fun e w'=>e=.returned (.int .i64 f)/\NetE w' base gx y/\Fr base w w':=by
 obtain ⟨B0,e0,B1,e1,B2,e2,B3,e3,B4,e4,rfl,rfl,rfl,rfl,rfl⟩:=hN.forms
 obtain ⟨gs,cs,u,es,Ht,Hu,hu,Hp,-,-⟩:=hN.slotAt hs
 obtain ⟨rfl,rfl⟩:B1=some ⟨gs,0,none⟩/\e1=cs:=by cases es;exact ⟨rfl,rfl⟩
 obtain ⟨Au,nu,cu,rfl⟩:=hu.form
 obtain ⟨-,d1⟩:=cz2 hN.box
 have dl:=hN.box.lt
 obtain ⟨q,hq⟩:=mK (Scu.load x.slots[r])
 obtain ⟨k,g0,a0,er⟩:=q
 have Hl:Scu.crash x r=if er≠0 then (x,er) else ({ x with replicas:=x.replicas.set r (Scu.repNew r k).1 },(Scu.repNew r k).2):=by
  unfold Scu.crash
  rw [mI,mH hs,Option.getD_some,hq]
 rw [Hl] at hy
 have Hv:(r:Int) < (x.slots.length:Int):=by omega
 have HN:=mA hN
 have HU:=mA hu
 have HQ:=mA hq
 have HY:=mA hy
 have Hw:=mA Hk
 clear hN hu hq hy es Hl Hk
 go_enter Tryd.func66,Tryd.ntmps66
 go_wp2_with fail
 refine (zJq _ _ w 0 HU.out k g0 a0 er HQ.out).mono ?_;rintro en w1 ⟨⟨Al,nl,cl,rfl,hl⟩,h1⟩
 go_upto_region 2 with fail
 obtain ⟨Wd,Hd⟩:=mJ (w1.alloc (.cells #[.int .i64 k.view,.int .i64 k.normal,.bool k.calm,.slice Al nl cl,.int .i64 k.commit] 44))
 rw [<- Hd]
 have He:Below w1.heap.size w1 Wd:=by rw [Hd];exact zAa _ _
 have hn:Blk Wd w1.heap.size 44 #[.int .i64 k.view,.int .i64 k.normal,.bool k.calm,.slice Al nl cl,.int .i64 k.commit]:=by rw [Hd];exact Blk.new _ _ _
 have Hf:=h1.trans (He.mono h1.size)
 have Hb:=mA (HN.out.below Hf)
 have HL:=mA (hl.below He)
 have Hg:=mA (Fr.of Hf hb)
 have HB:=mA hn
 clear Hd He hn Hf h1 hl d1 Hp
 by_cases he:er=0
 ·subst he
  obtain ⟨nr,Hh⟩:=mK (Scu.repNew r k)
  obtain ⟨rr,fr⟩:=nr
  have Hc:y = { x with replicas:=x.replicas.set r rr }/\f=fr:=by
   have h:=HY.out
   rw [if_neg (by simp),Hh] at h
   exact ⟨(Prod.mk.inj h).1.symm,(Prod.mk.inj h).2.symm⟩
  obtain ⟨gr,cr,lu0,Hx,wv0,gv0,nv0,er',Hy,Hm,-,-,Hn,curr,Hi⟩:=Hb.out.repAt hr
  obtain ⟨rfl,rfl⟩:B0=some ⟨gr,0,none⟩/\e0=cr:=by cases er';exact ⟨rfl,rfl⟩
  have d0:=cz1 Hb.out.box
  obtain ⟨q0,q1,q2,q3,q4⟩:=cz5 HB.out
  have nxr:gx≠gr:=zAo Hb.out.box Hi (by decide)
  have nkr:w1.heap.size≠gr:=zAo HB.out Hi (by decide)
  clear Hi
  have dl:=Hb.out.box.lt
  have ql:=HB.out.lt
  have Hz:(r:Int) < (x.replicas.length:Int):=by omega
  have Hq:=mA Hh
  have Ha:=mA Hc
  have Hr:=mA Hn
  clear Hh Hc er' Hn
  go_wp2_with fail
  go_region_held3 (fun w'=>w'.cell? ⟨gx,0,none⟩=some (.slice (some ⟨gr,0,none⟩) x.replicas.length e0)/\w'.cell? ⟨w1.heap.size,0,none⟩=some (.int .i64 k.view)/\w'.cell? ⟨w1.heap.size,1,none⟩=some (.int .i64 k.normal)/\w'.cell? ⟨w1.heap.size,2,none⟩=some (.bool k.calm)/\w'.cell? ⟨w1.heap.size,3,none⟩=some (.slice Al nl cl)/\w'.cell? ⟨w1.heap.size,4,none⟩=some (.int .i64 k.commit))
   (first | (go_split_ands;(try dsimp only);(repeat' apply mB) <;> first | (with_reducible assumption) | (with_reducible (refine (zTh ?_).trans ?_ <;> assumption))) | (go_split_ands;(try dsimp only);exact ⟨d0,q0,q1,q2,q3,q4⟩))
   (first
    | (go_at_call 29;refine (zPx Al nl cl r k _ 0 (HL.out.drewN 1) rr fr Hq.out).mono ?_;rintro en x1 ⟨⟨lu,hv,wv,gv,nv,rfl,Hj⟩,k1'⟩
       obtain ⟨E0,m0,d0',E1,d1',E2,d2',E3,d3',E4,d4',rfl,rfl,rfl,rfl,rfl⟩:=Hj.forms
       have nn1:Below Wd.heap.size Wd x1:=(below_drewN (mG _ _) 1).trans k1'
       have M1:=mA nn1
       have Hs:=mA Hj
       obtain ⟨u0,u1,u2,u3,u4,u5,u6,u7,u8,u9,⟨z0,z1,z2,z3,z4,z5,z6,z7,z8,z9⟩,f0,f1,f2,f3,f4,f5,f6,f7,f8,f9⟩:=zTi (zBb Hr.out nn1 Hm)
       have gl1:gr < x1.heap.size:=mF Hm nn1.size
       have y0:=cW nn1 dl d0
       have y1:=cW nn1 ql q0
       have y2:=cW nn1 ql q1
       have y3:=cW nn1 ql q2
       have y4:=cW nn1 ql q3
       have y5:=cW nn1 ql q4
       clear nn1 k1' Hj))
  all_goals
   rename_i hHeld
   clear hHeld
   have Ho:=Hb.out.below M1.out
   obtain ⟨hP,hF⟩:=Ho.putRep hr (cs:=repV rr (.slice E0 m0 d0') (.slice E1 rr.have_.length d1') (.slice E2 rr.wants.length d2') (.slice E3 rr.gives.length d3') (.slice E4 rr.given.length d4')) (r:=rr) ⟨_,_,_,_,_,rfl,Hs.out⟩
   have HP:=mA (mB hP.e (Hg.out.trans ((Fr.of M1.out (mD hb Hg.out.size)).trans hF)))
   clear Ho hP hF
   go_wp2
   go_ret
   first
   | exact ⟨zAb (zAd Ha.out.2.symm),by rw [Ha.out.1];exact HP.out.1,HP.out.2⟩
   | exact ⟨zAb (zAd Ha.out.2.symm),by rw [Ha.out.1];exact HP.out.1.below (mG _ _).drew,HP.out.2.drew⟩
 have Ka:(er != 0)=true:=by simpa using he
 have Hc:y=x/\f=er:=by
  have h:=HY.out
  rw [if_pos he] at h
  exact ⟨(Prod.mk.inj h).1.symm,(Prod.mk.inj h).2.symm⟩
 have Ha:=mA Hc
 clear he Hc
 go_wp2
 go_ret
 exact ⟨zAb (zAd Ha.out.2.symm),by rw [Ha.out.1];exact Hb.out.e,Hg.out⟩
open Go.RowKit Go.ChangeShapes Go.WideShapes Go.ChangeAt
structure BestI (w:World) (A:Option Addr) (n c:Nat) (k:Scu.Kept) (wr:World):Prop where
 best:Blk wr (w.heap.size+1) 44 #[.int .i64 k.view,.int .i64 k.normal,.bool k.calm,.slice A n c,.int .i64 k.commit]
 own:OwnStrs wr w.heap.size (.slice A n c) k.log
 zero:Blk wr w.heap.size 44 #[.int .i64 0,.int .i64 0,.bool false,.slice none 0 0,.int .i64 0]
 low:Below w.heap.size w wr
section
variable {w wr w':World} {A:Option Addr} {n c:Nat} {k:Scu.Kept}
theorem BestI.below (h:BestI w A n c k wr) (hb:Below wr.heap.size wr w'):BestI w A n c k w' :=
 ⟨h.best.same hb,h.own.below hb,h.zero.same hb,h.low.trans (hb.mono h.low.size)⟩
theorem BestI.alloc (h:BestI w A n c k wr) (o:Obj):BestI w A n c k (wr.alloc o):=h.below (zAa wr o)
theorem BestI.next (h:BestI w A n c k wr) {A':Option Addr} {n' c':Nat} {k':Scu.Kept} (ho:OwnStrs wr w.heap.size (.slice A' n' c') k'.log) :
 BestI w A' n' c' k' (((((wr.setCell ⟨w.heap.size+1,0,none⟩ (.int .i64 k'.view)).setCell ⟨w.heap.size+1,1,none⟩ (.int .i64 k'.normal)).setCell ⟨w.heap.size+1,2,none⟩ (.bool k'.calm)).setCell ⟨w.heap.size+1,3,none⟩ (.slice A' n' c')).setCell ⟨w.heap.size+1,4,none⟩ (.int .i64 k'.commit)):=by
 refine ⟨((((h.best.set_ 0 _).set_ 1 _).set_ 2 _).set_ 3 _).set_ 4 _,ho.same (Same.sets5 (B:=0) h.best (mE _) (by decide) _ _ _ _ _),?_,zAu h.low (Nat.le_succ _)⟩
 exact ((((h.zero.far (by simp) _).far (by simp) _).far (by simp) _).far (by simp) _).far (by simp) _
end
section
variable {H:Type} {enc:TypeId × Value->H} {w:World} {base:Nat} {spare:Nat->Bool} {held:Bool}
end
theorem zBg (v:Value) (l:List Scu.Str) (w:World) (B:Nat) (hv:IsStrs w B v l) (k:Scu.Kept) (g a e:Int) (h:Scu.load l=(k,g,a,e)) :
 Calls Tryd.prog 15 #[v] w fun en w'=>LoadRet w' w.heap.size (k,g,a,e) en/\Below w.heap.size w w':=by
 have:=zJp v l w B hv
 rw [h] at this
 exact this
open Go.RowKit
section
variable {l:List Scu.Str} {k k':Scu.Kept} {up g a e:Int}
theorem st1 (h:Scu.load l=(k',g,a,e)) (he:e≠0):Scu.store l k up=([],e):=by
 unfold Scu.store
 simp only [h]
 rw [if_pos he]
theorem st2 (h:Scu.load l=(k',g,a,0)) (hg:g=1073741824):Scu.store l k up=([],7):=by
 unfold Scu.store
 simp only [h]
 rw [if_neg (by simp),if_pos hg]
theorem st3 (h:Scu.load l=(k',g,a,0)) (hg:g≠1073741824) (hk:Scu.keptFault k≠0):Scu.store l k up=([],Scu.keptFault k):=by
 unfold Scu.store
 simp only [h]
 rw [if_neg (by simp),if_neg hg,if_pos hk]
theorem st4 (h:Scu.load l=(k',g,a,0)) (hg:g≠1073741824) (hk:¬ Scu.keptFault k≠0) (hu:up < -1):Scu.store l k up=([],2):=by
 unfold Scu.store
 simp only [h]
 rw [if_neg (by simp),if_neg hg,if_neg hk,if_pos hu]
theorem st5 (h:Scu.load l=(k',g,a,0)) (hg:g≠1073741824) (hk:¬ Scu.keptFault k≠0) (hu:¬ up < -1):Scu.store l k up=(l.set (1 - a).toNat (Scu.upTo (Scu.keptBytes k (g+1)) up),0):=by
 unfold Scu.store
 simp only [h]
 rw [if_neg (by simp),if_neg hg,if_neg hk,if_neg hu]
theorem zIf {s:Scu.Str} (h0:0<=up) (h1:up < s.size):Scu.upTo s up=s.extract 0 up.toNat:=if_pos ⟨h0,h1⟩
theorem zIk {s:Scu.Str} (h:up < 0\/(s.size:Int)<=up):Scu.upTo s up=s:=if_neg (by omega)
end
theorem zCu {k:Scu.Kept} (h:Scu.keptFault k=0) (g:Int):(Scu.keptBytes k g).size<=2488:=by
 unfold Scu.keptBytes
 rw [ByteArray.size_append,Scu.sealS_size,<- Scu.encT_all]
 have:=Scu.encT_size h g k.log.length
 omega
def StoreRet (w:World) (base:Nat) (q:List Scu.Str × Int) (e:Ending):Prop:=∃ u,e=.returned (.tuple #[u,.int .i64 q.2])/\OwnStrs w base u q.1
theorem zHd (w:World) (base:Nat) (e:Int):StoreRet w base ([],e) (.returned (.tuple #[.slice none 0 0,.int .i64 e])):=⟨_,rfl,OwnStrs.nil_⟩
theorem zBe (lv:Value) (k:Scu.Kept) (gen:Int) (w:World) (B:Nat) (hv:IsStrs w B lv k.log) (s:Scu.Str) (e:Int) (h:Scu.stageEncode k gen=(s,e)) :
 Calls Tryd.prog 42 #[.agg #[.int .i64 k.view,.int .i64 k.normal,.bool k.calm,lv,.int .i64 k.commit],.int .i64 gen] w fun en w'=>en=.returned (.tuple #[.string s,.int .i64 e])/\Below w.heap.size w w':=by
 have:=zGx lv k gen w B hv
 rw [h] at this
 exact this
open Go.RowKit
theorem zZc (A0:Option Addr) (n0 c0:Nat) (A2:Option Addr) (n2 c2:Nat) (l:List Scu.Str) (k:Scu.Kept) (up:Int) (k':Scu.Kept) (g a er:Int) (w:World) (B BK:Nat) (hv:IsStrs w B (.slice A0 n0 c0) l) (hk:IsStrs w BK (.slice A2 n2 c2) k.log)
 (hl:Scu.load l=(k',g,a,er)) (he:er≠0) :
 Calls Tryd.prog 79 #[.slice A0 n0 c0,.agg #[.int .i64 k.view,.int .i64 k.normal,.bool k.calm,.slice A2 n2 c2,.int .i64 k.commit],.int .i64 up] w fun e w'=>StoreRet w' w.heap.size ([],er) e/\Below w.heap.size w w':=by
 have He:(er != 0)=true:=by simpa using he
 have Hf:(er == 0)=false:=by simpa using he
 clear he
 have HV:=mA hv
 have HK:=mA hk
 have HL:=mA hl
 clear hv hk hl
 go_enter Tryd.func79,Tryd.ntmps79
 go_wp2_with fail
 refine (zBg _ l _ B (HV.out.alloc _) k' g a er HL.out).mono ?_;rintro en w1 ⟨⟨lv1,rfl,Ha⟩,h1⟩
 obtain ⟨A1,n1,c1,rfl⟩:=Ha.form
 have Hg:=zBu h1
 have Hb:=zAj h1
 have Hc:=(Blk.new w 44 #[.int .i64 k.view,.int .i64 k.normal,.bool k.calm,.slice A2 n2 c2,.int .i64 k.commit]).same h1
 obtain ⟨kc0,kc1,kc2,kc3,kc4⟩:=cz5 Hc
 have Hd:=mA Hb
 clear Ha h1 Hc Hb
 go_wp2
 go_ret2
 exact ⟨zHd _ _ _,Hd.out.alloc Hd.out.size _⟩
theorem zZd (A0:Option Addr) (n0 c0:Nat) (A2:Option Addr) (n2 c2:Nat) (l:List Scu.Str) (k:Scu.Kept) (up:Int) (k':Scu.Kept) (a:Int) (w:World) (B BK:Nat) (hv:IsStrs w B (.slice A0 n0 c0) l) (hk:IsStrs w BK (.slice A2 n2 c2) k.log)
 (hl:Scu.load l=(k',1073741824,a,0))  :
 Calls Tryd.prog 79 #[.slice A0 n0 c0,.agg #[.int .i64 k.view,.int .i64 k.normal,.bool k.calm,.slice A2 n2 c2,.int .i64 k.commit],.int .i64 up] w fun e w'=>StoreRet w' w.heap.size ([],7) e/\Below w.heap.size w w':=by
 have HV:=mA hv
 have HK:=mA hk
 have HL:=mA hl
 clear hv hk hl
 go_enter Tryd.func79,Tryd.ntmps79
 go_wp2_with fail
 refine (zBg _ l _ B (HV.out.alloc _) k' 1073741824 a 0 HL.out).mono ?_;rintro en w1 ⟨⟨lv1,rfl,Ha⟩,h1⟩
 obtain ⟨A1,n1,c1,rfl⟩:=Ha.form
 have He:=zBu h1
 have Hb:=zAj h1
 have Hc:=(Blk.new w 44 #[.int .i64 k.view,.int .i64 k.normal,.bool k.calm,.slice A2 n2 c2,.int .i64 k.commit]).same h1
 obtain ⟨kc0,kc1,kc2,kc3,kc4⟩:=cz5 Hc
 have Hd:=mA Hb
 clear Ha h1 Hc Hb
 go_wp2
 go_ret2
 exact ⟨zHd _ _ _,Hd.out.alloc Hd.out.size _⟩
theorem zZe (A0:Option Addr) (n0 c0:Nat) (A2:Option Addr) (n2 c2:Nat) (l:List Scu.Str) (k:Scu.Kept) (up:Int) (k':Scu.Kept) (g a:Int) (w:World) (B BK:Nat) (hv:IsStrs w B (.slice A0 n0 c0) l) (hk:IsStrs w BK (.slice A2 n2 c2) k.log)
 (hl:Scu.load l=(k',g,a,0)) (Hg:0<=g) (Hh:g < 1073741824) (hf:Scu.keptFault k≠0) :
 Calls Tryd.prog 79 #[.slice A0 n0 c0,.agg #[.int .i64 k.view,.int .i64 k.normal,.bool k.calm,.slice A2 n2 c2,.int .i64 k.commit],.int .i64 up] w fun e w'=>StoreRet w' w.heap.size ([],Scu.keptFault k) e/\Below w.heap.size w w':=by
 have Hi:(g == 1073741824)=false:=by simp;omega
 have Hj:¬ 1073741824<=g:=by omega
 have HE:=mA (zSr (k:=k) (gen:=g+1) hf)
 have Hk:(Scu.keptFault k != 0)=true:=by simpa using hf
 clear hf
 have HV:=mA hv
 have HK:=mA hk
 have HL:=mA hl
 clear hv hk hl
 go_enter Tryd.func79,Tryd.ntmps79
 go_wp2_with fail
 refine (zBg _ l _ B (HV.out.alloc _) k' g a 0 HL.out).mono ?_;rintro en w1 ⟨⟨lv1,rfl,Hb⟩,h1⟩
 obtain ⟨A1,n1,c1,rfl⟩:=Hb.form
 have Hl:=zBu h1
 have Hc:=zAj h1
 have Hd:=(Blk.new w 44 #[.int .i64 k.view,.int .i64 k.normal,.bool k.calm,.slice A2 n2 c2,.int .i64 k.commit]).same h1
 obtain ⟨kc0,kc1,kc2,kc3,kc4⟩:=cz5 Hd
 have Ha:=mA Hc
 clear Hb h1 Hd Hc
 go_wp2_with fail
 refine (zBe _ k (g+1) _ BK ((HK.out.below Ha.out).alloc _) Scu.str0 (Scu.keptFault k) HE.out).mono ?_;rintro en w2 ⟨rfl,h2⟩
 have He:=mA (Ha.out.trans ((zAj h2).mono Ha.out.size))
 have Hf:=zBu h2
 clear h2
 go_wp2
 go_ret2
 exact ⟨zHd _ _ _,He.out⟩
theorem zZf (A0:Option Addr) (n0 c0:Nat) (A2:Option Addr) (n2 c2:Nat) (l:List Scu.Str) (k:Scu.Kept) (up:Int) (k':Scu.Kept) (g a:Int) (w:World) (B BK:Nat) (hv:IsStrs w B (.slice A0 n0 c0) l) (hk:IsStrs w BK (.slice A2 n2 c2) k.log)
 (hl:Scu.load l=(k',g,a,0)) (Hg:0<=g) (Hh:g < 1073741824) (hf:¬ Scu.keptFault k≠0) (hu:up < -1) :
 Calls Tryd.prog 79 #[.slice A0 n0 c0,.agg #[.int .i64 k.view,.int .i64 k.normal,.bool k.calm,.slice A2 n2 c2,.int .i64 k.commit],.int .i64 up] w fun e w'=>StoreRet w' w.heap.size ([],2) e/\Below w.heap.size w w':=by
 have Hi:(g == 1073741824)=false:=by simp;omega
 have Hj:¬ 1073741824<=g:=by omega
 have HE:=mA (zPs (k:=k) (gen:=g+1) hf (by omega))
 generalize Scu.keptBytes k (g+1)=bs at HE
 clear hf
 have HV:=mA hv
 have HK:=mA hk
 have HL:=mA hl
 clear hv hk hl
 go_enter Tryd.func79,Tryd.ntmps79
 go_wp2_with fail
 refine (zBg _ l _ B (HV.out.alloc _) k' g a 0 HL.out).mono ?_;rintro en w1 ⟨⟨lv1,rfl,Hb⟩,h1⟩
 obtain ⟨A1,n1,c1,rfl⟩:=Hb.form
 have Hk:=zBu h1
 have Hc:=zAj h1
 have Hd:=(Blk.new w 44 #[.int .i64 k.view,.int .i64 k.normal,.bool k.calm,.slice A2 n2 c2,.int .i64 k.commit]).same h1
 obtain ⟨kc0,kc1,kc2,kc3,kc4⟩:=cz5 Hd
 have Ha:=mA Hc
 clear Hb h1 Hd Hc
 go_wp2_with fail
 refine (zBe _ k (g+1) _ BK ((HK.out.below Ha.out).alloc _) bs 0 HE.out).mono ?_;rintro en w2 ⟨rfl,h2⟩
 have He:=mA (Ha.out.trans ((zAj h2).mono Ha.out.size))
 have Hf:=zBu h2
 clear h2
 go_wp2
 go_ret2
 exact ⟨zHd _ _ _,He.out⟩
theorem zRh (A0:Option Addr) (n0 c0:Nat) (A2:Option Addr) (n2 c2:Nat) (l:List Scu.Str) (k:Scu.Kept) (up:Int) (k':Scu.Kept) (g:Int) (bs:Scu.Str) (w:World) (B BK:Nat) (hv:IsStrs w B (.slice A0 n0 c0) l) (hk:IsStrs w BK (.slice A2 n2 c2) k.log)
 (hl:Scu.load l=(k',g,0,0)) (Ht:0<=g) (Hu:g < 1073741824) (Hk:l.length=2) (hf:Scu.keptFault k=0) (hE:Scu.stageEncode k (g+1)=(bs,0)) (Hl:bs.size<=2488) (Hm:0<=up) (Hc:up < (bs.size:Int)) :
 Calls Tryd.prog 79 #[.slice A0 n0 c0,.agg #[.int .i64 k.view,.int .i64 k.normal,.bool k.calm,.slice A2 n2 c2,.int .i64 k.commit],.int .i64 up] w fun e w'=>StoreRet w' w.heap.size (l.set 1 (Scu.upTo bs up),0) e/\Below w.heap.size w w':=by
 have Hv:(g == 1073741824)=false:=by simp;omega
 have Hw:¬ 1073741824<=g:=by omega
 rw [zIf Hm Hc]
 have Hx : -1<=up:=by omega
 have HE:=mA hE
 have HF:=mA hf
 have Hn:=mA Hl
 have Hy:(0:Int) < (l.length:Int):=by omega
 have Hz:(1:Int) < (l.length:Int):=by omega
 have Ho:0 < l.length:=by omega
 have Hd:1 < l.length:=by omega
 have Ka:¬ maxLen < l.length:=by unfold maxLen;omega
 have Hp:(up == 0)=(up == 0):=rfl
 clear hE hf Hk Hp
 have HV:=mA hv
 have HK:=mA hk
 have HL:=mA hl
 clear hv hk hl
 go_enter Tryd.func79,Tryd.ntmps79
 go_wp2_with fail
 refine (zBg _ l _ B (HV.out.alloc _) k' g 0 0 HL.out).mono ?_;rintro en w1 ⟨⟨lv1,rfl,Hc⟩,h1⟩
 obtain ⟨A1,n1,c1,rfl⟩:=Hc.form
 have Kb:=zBu h1
 have Hh:=zAj h1
 have Hi:=(Blk.new w 44 #[.int .i64 k.view,.int .i64 k.normal,.bool k.calm,.slice A2 n2 c2,.int .i64 k.commit]).same h1
 obtain ⟨kc0,kc1,kc2,kc3,kc4⟩:=cz5 Hi
 have He:=mA Hh
 clear Hc h1 Hi Hh
 go_wp2_with fail
 refine (zBe _ k (g+1) _ BK ((HK.out.below He.out).alloc _) bs 0 HE.out).mono ?_;rintro en w2 ⟨rfl,h2⟩
 have Ha:=mA (He.out.trans ((zAj h2).mono He.out.size))
 have Hq:=zBu h2
 clear h2
 go_wp2_with fail
 refine (zAl _ l _ B (HV.out.below Ha.out)).mono ?_;rintro en w3 ⟨⟨u,rfl,hu⟩,h3⟩
 have Hf:OwnStrs w3 w2.heap.size u l:=⟨hu,HV.out.len,HV.out.each⟩
 have h3:=h3.mono Ha.out.size
 obtain ⟨g3,c3,cur3,rfl,Hj,Hg,Hb⟩:=Hf.at_ Ho
 have HU:=mA Hf
 have Kc:=Hg.frozen
 have Kd:=Hg.lt
 have Ke:w3.cell? ⟨g3,1,none⟩=some (.string (l[1]'Hd)):=by rw [Hb 1 Hd,List.getElem?_map,mH Hd];rfl
 have Hr:=mA (Ha.out.trans h3)
 have Hs:=mA Hj
 clear hu Hf Hb Hg h3 Hj
 go_wp2
 go_ret2
 refine ⟨⟨_,rfl,?_⟩,Hr.out.setCell (p:=⟨g3,1,none⟩) (by have:=Hs.out;have:=Ha.out.size;show w.heap.size<=g3;omega) _⟩
 exact (HU.out.base_ Ha.out.size).put 1 _ (by have:=Hn.out;simp only [R47];first | (rw [ByteArray.size_extract];omega) | omega)
theorem zRi (A0:Option Addr) (n0 c0:Nat) (A2:Option Addr) (n2 c2:Nat) (l:List Scu.Str) (k:Scu.Kept) (up:Int) (k':Scu.Kept) (g:Int) (bs:Scu.Str) (w:World) (B BK:Nat) (hv:IsStrs w B (.slice A0 n0 c0) l) (hk:IsStrs w BK (.slice A2 n2 c2) k.log)
 (hl:Scu.load l=(k',g,0,0)) (Hs:0<=g) (Ht:g < 1073741824) (Hk:l.length=2) (hf:Scu.keptFault k=0) (hE:Scu.stageEncode k (g+1)=(bs,0)) (Hl:bs.size<=2488) (Hu : -1<=up) (Hc:up < 0) :
 Calls Tryd.prog 79 #[.slice A0 n0 c0,.agg #[.int .i64 k.view,.int .i64 k.normal,.bool k.calm,.slice A2 n2 c2,.int .i64 k.commit],.int .i64 up] w fun e w'=>StoreRet w' w.heap.size (l.set 1 (Scu.upTo bs up),0) e/\Below w.heap.size w w':=by
 have Hv:(g == 1073741824)=false:=by simp;omega
 have Hw:¬ 1073741824<=g:=by omega
 rw [zIk (.inl Hc)]
 have Hx:¬ 0<=up:=by omega
 have HE:=mA hE
 have HF:=mA hf
 have Hm:=mA Hl
 have Hy:(0:Int) < (l.length:Int):=by omega
 have Hz:(1:Int) < (l.length:Int):=by omega
 have Hn:0 < l.length:=by omega
 have Hd:1 < l.length:=by omega
 have Ka:¬ maxLen < l.length:=by unfold maxLen;omega
 have Ho:(up == 0)=(up == 0):=rfl
 clear hE hf Hk Ho
 have HV:=mA hv
 have HK:=mA hk
 have HL:=mA hl
 clear hv hk hl
 go_enter Tryd.func79,Tryd.ntmps79
 go_wp2_with fail
 refine (zBg _ l _ B (HV.out.alloc _) k' g 0 0 HL.out).mono ?_;rintro en w1 ⟨⟨lv1,rfl,Hc⟩,h1⟩
 obtain ⟨A1,n1,c1,rfl⟩:=Hc.form
 have Kb:=zBu h1
 have Hh:=zAj h1
 have Hi:=(Blk.new w 44 #[.int .i64 k.view,.int .i64 k.normal,.bool k.calm,.slice A2 n2 c2,.int .i64 k.commit]).same h1
 obtain ⟨kc0,kc1,kc2,kc3,kc4⟩:=cz5 Hi
 have He:=mA Hh
 clear Hc h1 Hi Hh
 go_wp2_with fail
 refine (zBe _ k (g+1) _ BK ((HK.out.below He.out).alloc _) bs 0 HE.out).mono ?_;rintro en w2 ⟨rfl,h2⟩
 have Ha:=mA (He.out.trans ((zAj h2).mono He.out.size))
 have Hp:=zBu h2
 clear h2
 go_wp2_with fail
 refine (zAl _ l _ B (HV.out.below Ha.out)).mono ?_;rintro en w3 ⟨⟨u,rfl,hu⟩,h3⟩
 have Hf:OwnStrs w3 w2.heap.size u l:=⟨hu,HV.out.len,HV.out.each⟩
 have h3:=h3.mono Ha.out.size
 obtain ⟨g3,c3,cur3,rfl,Hj,Hg,Hb⟩:=Hf.at_ Hn
 have HU:=mA Hf
 have Kc:=Hg.frozen
 have Kd:=Hg.lt
 have Ke:w3.cell? ⟨g3,1,none⟩=some (.string (l[1]'Hd)):=by rw [Hb 1 Hd,List.getElem?_map,mH Hd];rfl
 have Hq:=mA (Ha.out.trans h3)
 have Hr:=mA Hj
 clear hu Hf Hb Hg h3 Hj
 go_wp2
 go_ret2
 refine ⟨⟨_,rfl,?_⟩,Hq.out.setCell (p:=⟨g3,1,none⟩) (by have:=Hr.out;have:=Ha.out.size;show w.heap.size<=g3;omega) _⟩
 exact (HU.out.base_ Ha.out.size).put 1 _ (by have:=Hm.out;simp only [R47];first | (rw [ByteArray.size_extract];omega) | omega)
theorem zRj (A0:Option Addr) (n0 c0:Nat) (A2:Option Addr) (n2 c2:Nat) (l:List Scu.Str) (k:Scu.Kept) (up:Int) (k':Scu.Kept) (g:Int) (bs:Scu.Str) (w:World) (B BK:Nat) (hv:IsStrs w B (.slice A0 n0 c0) l) (hk:IsStrs w BK (.slice A2 n2 c2) k.log)
 (hl:Scu.load l=(k',g,0,0)) (Hs:0<=g) (Ht:g < 1073741824) (Hk:l.length=2) (hf:Scu.keptFault k=0) (hE:Scu.stageEncode k (g+1)=(bs,0)) (Hl:bs.size<=2488) (Hu:0<=up) (Hc:(bs.size:Int)<=up) :
 Calls Tryd.prog 79 #[.slice A0 n0 c0,.agg #[.int .i64 k.view,.int .i64 k.normal,.bool k.calm,.slice A2 n2 c2,.int .i64 k.commit],.int .i64 up] w fun e w'=>StoreRet w' w.heap.size (l.set 1 (Scu.upTo bs up),0) e/\Below w.heap.size w w':=by
 have Hv:(g == 1073741824)=false:=by simp;omega
 have Hw:¬ 1073741824<=g:=by omega
 rw [zIk (.inr Hc)]
 have Hx : -1<=up:=by omega
 have HE:=mA hE
 have HF:=mA hf
 have Hm:=mA Hl
 have Hy:(0:Int) < (l.length:Int):=by omega
 have Hz:(1:Int) < (l.length:Int):=by omega
 have Hn:0 < l.length:=by omega
 have Hd:1 < l.length:=by omega
 have Ka:¬ maxLen < l.length:=by unfold maxLen;omega
 have Ho:(up == 0)=(up == 0):=rfl
 clear hE hf Hk Ho
 have HV:=mA hv
 have HK:=mA hk
 have HL:=mA hl
 clear hv hk hl
 go_enter Tryd.func79,Tryd.ntmps79
 go_wp2_with fail
 refine (zBg _ l _ B (HV.out.alloc _) k' g 0 0 HL.out).mono ?_;rintro en w1 ⟨⟨lv1,rfl,Hc⟩,h1⟩
 obtain ⟨A1,n1,c1,rfl⟩:=Hc.form
 have Kb:=zBu h1
 have Hh:=zAj h1
 have Hi:=(Blk.new w 44 #[.int .i64 k.view,.int .i64 k.normal,.bool k.calm,.slice A2 n2 c2,.int .i64 k.commit]).same h1
 obtain ⟨kc0,kc1,kc2,kc3,kc4⟩:=cz5 Hi
 have He:=mA Hh
 clear Hc h1 Hi Hh
 go_wp2_with fail
 refine (zBe _ k (g+1) _ BK ((HK.out.below He.out).alloc _) bs 0 HE.out).mono ?_;rintro en w2 ⟨rfl,h2⟩
 have Ha:=mA (He.out.trans ((zAj h2).mono He.out.size))
 have Hp:=zBu h2
 clear h2
 go_wp2_with fail
 refine (zAl _ l _ B (HV.out.below Ha.out)).mono ?_;rintro en w3 ⟨⟨u,rfl,hu⟩,h3⟩
 have Hf:OwnStrs w3 w2.heap.size u l:=⟨hu,HV.out.len,HV.out.each⟩
 have h3:=h3.mono Ha.out.size
 obtain ⟨g3,c3,cur3,rfl,Hj,Hg,Hb⟩:=Hf.at_ Hn
 have HU:=mA Hf
 have Kc:=Hg.frozen
 have Kd:=Hg.lt
 have Ke:w3.cell? ⟨g3,1,none⟩=some (.string (l[1]'Hd)):=by rw [Hb 1 Hd,List.getElem?_map,mH Hd];rfl
 have Hq:=mA (Ha.out.trans h3)
 have Hr:=mA Hj
 clear hu Hf Hb Hg h3 Hj
 go_wp2
 go_ret2
 refine ⟨⟨_,rfl,?_⟩,Hq.out.setCell (p:=⟨g3,1,none⟩) (by have:=Hr.out;have:=Ha.out.size;show w.heap.size<=g3;omega) _⟩
 exact (HU.out.base_ Ha.out.size).put 1 _ (by have:=Hm.out;simp only [R47];first | (rw [ByteArray.size_extract];omega) | omega)
theorem zRk (A0:Option Addr) (n0 c0:Nat) (A2:Option Addr) (n2 c2:Nat) (l:List Scu.Str) (k:Scu.Kept) (up:Int) (k':Scu.Kept) (g:Int) (bs:Scu.Str) (w:World) (B BK:Nat) (hv:IsStrs w B (.slice A0 n0 c0) l) (hk:IsStrs w BK (.slice A2 n2 c2) k.log)
 (hl:Scu.load l=(k',g,1,0)) (Hs:0<=g) (Ht:g < 1073741824) (Hk:l.length=2) (hf:Scu.keptFault k=0) (hE:Scu.stageEncode k (g+1)=(bs,0)) (Hl:bs.size<=2488) (Hm:0<=up) (Hc:up < (bs.size:Int)) :
 Calls Tryd.prog 79 #[.slice A0 n0 c0,.agg #[.int .i64 k.view,.int .i64 k.normal,.bool k.calm,.slice A2 n2 c2,.int .i64 k.commit],.int .i64 up] w fun e w'=>StoreRet w' w.heap.size (l.set 0 (Scu.upTo bs up),0) e/\Below w.heap.size w w':=by
 have Hu:(g == 1073741824)=false:=by simp;omega
 have Hv:¬ 1073741824<=g:=by omega
 rw [zIf Hm Hc]
 have Hw : -1<=up:=by omega
 have HE:=mA hE
 have HF:=mA hf
 have Hn:=mA Hl
 have Hx:(0:Int) < (l.length:Int):=by omega
 have Hy:(1:Int) < (l.length:Int):=by omega
 have Hd:0 < l.length:=by omega
 have Hz:1 < l.length:=by omega
 have Ka:¬ maxLen < l.length:=by unfold maxLen;omega
 have Ho:(up == 0)=(up == 0):=rfl
 clear hE hf Hk Ho
 have HV:=mA hv
 have HK:=mA hk
 have HL:=mA hl
 clear hv hk hl
 go_enter Tryd.func79,Tryd.ntmps79
 go_wp2_with fail
 refine (zBg _ l _ B (HV.out.alloc _) k' g 1 0 HL.out).mono ?_;rintro en w1 ⟨⟨lv1,rfl,Hc⟩,h1⟩
 obtain ⟨A1,n1,c1,rfl⟩:=Hc.form
 have Kb:=zBu h1
 have Hh:=zAj h1
 have Hi:=(Blk.new w 44 #[.int .i64 k.view,.int .i64 k.normal,.bool k.calm,.slice A2 n2 c2,.int .i64 k.commit]).same h1
 obtain ⟨kc0,kc1,kc2,kc3,kc4⟩:=cz5 Hi
 have He:=mA Hh
 clear Hc h1 Hi Hh
 go_wp2_with fail
 refine (zBe _ k (g+1) _ BK ((HK.out.below He.out).alloc _) bs 0 HE.out).mono ?_;rintro en w2 ⟨rfl,h2⟩
 have Ha:=mA (He.out.trans ((zAj h2).mono He.out.size))
 have Hp:=zBu h2
 clear h2
 go_wp2_with fail
 refine (zAl _ l _ B (HV.out.below Ha.out)).mono ?_;rintro en w3 ⟨⟨u,rfl,hu⟩,h3⟩
 have Hf:OwnStrs w3 w2.heap.size u l:=⟨hu,HV.out.len,HV.out.each⟩
 have h3:=h3.mono Ha.out.size
 obtain ⟨g3,c3,cur3,rfl,Hj,Hg,Hb⟩:=Hf.at_ Hd
 have HU:=mA Hf
 have Kc:=Hg.frozen
 have Kd:=Hg.lt
 have Ke:w3.cell? ⟨g3,0,none⟩=some (.string (l[0]'Hd)):=by rw [Hb 0 Hd,List.getElem?_map,mH Hd];rfl
 have Hq:=mA (Ha.out.trans h3)
 have Hr:=mA Hj
 clear hu Hf Hb Hg h3 Hj
 go_wp2
 go_ret2
 refine ⟨⟨_,rfl,?_⟩,Hq.out.setCell (p:=⟨g3,0,none⟩) (by have:=Hr.out;have:=Ha.out.size;show w.heap.size<=g3;omega) _⟩
 exact (HU.out.base_ Ha.out.size).put 0 _ (by have:=Hn.out;simp only [R47];first | (rw [ByteArray.size_extract];omega) | omega)
theorem zRl (A0:Option Addr) (n0 c0:Nat) (A2:Option Addr) (n2 c2:Nat) (l:List Scu.Str) (k:Scu.Kept) (up:Int) (k':Scu.Kept) (g:Int) (bs:Scu.Str) (w:World) (B BK:Nat) (hv:IsStrs w B (.slice A0 n0 c0) l) (hk:IsStrs w BK (.slice A2 n2 c2) k.log)
 (hl:Scu.load l=(k',g,1,0)) (Hr:0<=g) (Hs:g < 1073741824) (Hk:l.length=2) (hf:Scu.keptFault k=0) (hE:Scu.stageEncode k (g+1)=(bs,0)) (Hl:bs.size<=2488) (Ht : -1<=up) (Hc:up < 0) :
 Calls Tryd.prog 79 #[.slice A0 n0 c0,.agg #[.int .i64 k.view,.int .i64 k.normal,.bool k.calm,.slice A2 n2 c2,.int .i64 k.commit],.int .i64 up] w fun e w'=>StoreRet w' w.heap.size (l.set 0 (Scu.upTo bs up),0) e/\Below w.heap.size w w':=by
 have Hu:(g == 1073741824)=false:=by simp;omega
 have Hv:¬ 1073741824<=g:=by omega
 rw [zIk (.inl Hc)]
 have Hw:¬ 0<=up:=by omega
 have HE:=mA hE
 have HF:=mA hf
 have Hm:=mA Hl
 have Hx:(0:Int) < (l.length:Int):=by omega
 have Hy:(1:Int) < (l.length:Int):=by omega
 have Hd:0 < l.length:=by omega
 have Hz:1 < l.length:=by omega
 have Ka:¬ maxLen < l.length:=by unfold maxLen;omega
 have Hn:(up == 0)=(up == 0):=rfl
 clear hE hf Hk Hn
 have HV:=mA hv
 have HK:=mA hk
 have HL:=mA hl
 clear hv hk hl
 go_enter Tryd.func79,Tryd.ntmps79
 go_wp2_with fail
 refine (zBg _ l _ B (HV.out.alloc _) k' g 1 0 HL.out).mono ?_;rintro en w1 ⟨⟨lv1,rfl,Hc⟩,h1⟩
 obtain ⟨A1,n1,c1,rfl⟩:=Hc.form
 have Kb:=zBu h1
 have Hh:=zAj h1
 have Hi:=(Blk.new w 44 #[.int .i64 k.view,.int .i64 k.normal,.bool k.calm,.slice A2 n2 c2,.int .i64 k.commit]).same h1
 obtain ⟨kc0,kc1,kc2,kc3,kc4⟩:=cz5 Hi
 have He:=mA Hh
 clear Hc h1 Hi Hh
 go_wp2_with fail
 refine (zBe _ k (g+1) _ BK ((HK.out.below He.out).alloc _) bs 0 HE.out).mono ?_;rintro en w2 ⟨rfl,h2⟩
 have Ha:=mA (He.out.trans ((zAj h2).mono He.out.size))
 have Ho:=zBu h2
 clear h2
 go_wp2_with fail
 refine (zAl _ l _ B (HV.out.below Ha.out)).mono ?_;rintro en w3 ⟨⟨u,rfl,hu⟩,h3⟩
 have Hf:OwnStrs w3 w2.heap.size u l:=⟨hu,HV.out.len,HV.out.each⟩
 have h3:=h3.mono Ha.out.size
 obtain ⟨g3,c3,cur3,rfl,Hj,Hg,Hb⟩:=Hf.at_ Hd
 have HU:=mA Hf
 have Kc:=Hg.frozen
 have Kd:=Hg.lt
 have Ke:w3.cell? ⟨g3,0,none⟩=some (.string (l[0]'Hd)):=by rw [Hb 0 Hd,List.getElem?_map,mH Hd];rfl
 have Hp:=mA (Ha.out.trans h3)
 have Hq:=mA Hj
 clear hu Hf Hb Hg h3 Hj
 go_wp2
 go_ret2
 refine ⟨⟨_,rfl,?_⟩,Hp.out.setCell (p:=⟨g3,0,none⟩) (by have:=Hq.out;have:=Ha.out.size;show w.heap.size<=g3;omega) _⟩
 exact (HU.out.base_ Ha.out.size).put 0 _ (by have:=Hm.out;simp only [R47];first | (rw [ByteArray.size_extract];omega) | omega)
theorem zRm (A0:Option Addr) (n0 c0:Nat) (A2:Option Addr) (n2 c2:Nat) (l:List Scu.Str) (k:Scu.Kept) (up:Int) (k':Scu.Kept) (g:Int) (bs:Scu.Str) (w:World) (B BK:Nat) (hv:IsStrs w B (.slice A0 n0 c0) l) (hk:IsStrs w BK (.slice A2 n2 c2) k.log)
 (hl:Scu.load l=(k',g,1,0)) (Hr:0<=g) (Hs:g < 1073741824) (Hk:l.length=2) (hf:Scu.keptFault k=0) (hE:Scu.stageEncode k (g+1)=(bs,0)) (Hl:bs.size<=2488) (Ht:0<=up) (Hc:(bs.size:Int)<=up) :
 Calls Tryd.prog 79 #[.slice A0 n0 c0,.agg #[.int .i64 k.view,.int .i64 k.normal,.bool k.calm,.slice A2 n2 c2,.int .i64 k.commit],.int .i64 up] w fun e w'=>StoreRet w' w.heap.size (l.set 0 (Scu.upTo bs up),0) e/\Below w.heap.size w w':=by
 have Hu:(g == 1073741824)=false:=by simp;omega
 have Hv:¬ 1073741824<=g:=by omega
 rw [zIk (.inr Hc)]
 have Hw : -1<=up:=by omega
 have HE:=mA hE
 have HF:=mA hf
 have Hm:=mA Hl
 have Hx:(0:Int) < (l.length:Int):=by omega
 have Hy:(1:Int) < (l.length:Int):=by omega
 have Hd:0 < l.length:=by omega
 have Hz:1 < l.length:=by omega
 have Ka:¬ maxLen < l.length:=by unfold maxLen;omega
 have Hn:(up == 0)=(up == 0):=rfl
 clear hE hf Hk Hn
 have HV:=mA hv
 have HK:=mA hk
 have HL:=mA hl
 clear hv hk hl
 go_enter Tryd.func79,Tryd.ntmps79
 go_wp2_with fail
 refine (zBg _ l _ B (HV.out.alloc _) k' g 1 0 HL.out).mono ?_;rintro en w1 ⟨⟨lv1,rfl,Hc⟩,h1⟩
 obtain ⟨A1,n1,c1,rfl⟩:=Hc.form
 have Kb:=zBu h1
 have Hh:=zAj h1
 have Hi:=(Blk.new w 44 #[.int .i64 k.view,.int .i64 k.normal,.bool k.calm,.slice A2 n2 c2,.int .i64 k.commit]).same h1
 obtain ⟨kc0,kc1,kc2,kc3,kc4⟩:=cz5 Hi
 have He:=mA Hh
 clear Hc h1 Hi Hh
 go_wp2_with fail
 refine (zBe _ k (g+1) _ BK ((HK.out.below He.out).alloc _) bs 0 HE.out).mono ?_;rintro en w2 ⟨rfl,h2⟩
 have Ha:=mA (He.out.trans ((zAj h2).mono He.out.size))
 have Ho:=zBu h2
 clear h2
 go_wp2_with fail
 refine (zAl _ l _ B (HV.out.below Ha.out)).mono ?_;rintro en w3 ⟨⟨u,rfl,hu⟩,h3⟩
 have Hf:OwnStrs w3 w2.heap.size u l:=⟨hu,HV.out.len,HV.out.each⟩
 have h3:=h3.mono Ha.out.size
 obtain ⟨g3,c3,cur3,rfl,Hj,Hg,Hb⟩:=Hf.at_ Hd
 have HU:=mA Hf
 have Kc:=Hg.frozen
 have Kd:=Hg.lt
 have Ke:w3.cell? ⟨g3,0,none⟩=some (.string (l[0]'Hd)):=by rw [Hb 0 Hd,List.getElem?_map,mH Hd];rfl
 have Hp:=mA (Ha.out.trans h3)
 have Hq:=mA Hj
 clear hu Hf Hb Hg h3 Hj
 go_wp2
 go_ret2
 refine ⟨⟨_,rfl,?_⟩,Hp.out.setCell (p:=⟨g3,0,none⟩) (by have:=Hq.out;have:=Ha.out.size;show w.heap.size<=g3;omega) _⟩
 exact (HU.out.base_ Ha.out.size).put 0 _ (by have:=Hm.out;simp only [R47];first | (rw [ByteArray.size_extract];omega) | omega)
theorem zNo (v lv:Value) (l:List Scu.Str) (k:Scu.Kept) (up:Int) (w:World) (B BK:Nat) (hv:IsStrs w B v l) (hk:IsStrs w BK lv k.log) :
 Calls Tryd.prog 79 #[v,.agg #[.int .i64 k.view,.int .i64 k.normal,.bool k.calm,lv,.int .i64 k.commit],.int .i64 up] w fun e w'=>StoreRet w' w.heap.size (Scu.store l k up) e/\Below w.heap.size w w':=by
 obtain ⟨A0,n0,c0,rfl⟩:=hv.form
 obtain ⟨A2,n2,c2,rfl⟩:=hk.form
 obtain ⟨q,hl⟩:=mK (Scu.load l)
 obtain ⟨k',g,a,e⟩:=q
 by_cases he:e=0
 ·subst he
  obtain ⟨He,ha,Ha,Hf⟩:=Scu.load_at hl
  by_cases hg:g=1073741824
  ·rw [st2 hl hg]
   subst hg
   exact zZd A0 n0 c0 A2 n2 c2 l k up k' a w B BK hv hk hl
  have Hb:g < 1073741824:=by omega
  by_cases hf:Scu.keptFault k≠0
  ·rw [st3 hl hg hf]
   exact zZe A0 n0 c0 A2 n2 c2 l k up k' g a w B BK hv hk hl Ha Hb hf
  by_cases hu:up < -1
  ·rw [st4 hl hg hf hu]
   exact zZf A0 n0 c0 A2 n2 c2 l k up k' g a w B BK hv hk hl Ha Hb hf hu
  rw [st5 hl hg hf hu]
  have hE:=zPs (k:=k) (gen:=g+1) hf (by omega)
  have Hc:Scu.keptFault k=0:=Decidable.not_not.1 hf
  have Hd:=zCu Hc (g+1)
  generalize Scu.keptBytes k (g+1)=bs at hE Hd
  rcases ha with rfl | rfl
  ·show Calls _ _ _ _ fun e w'=>StoreRet w' w.heap.size (l.set 1 (Scu.upTo bs up),0) e/\Below w.heap.size w w'
   by_cases h0:0<=up
   ·by_cases h1:up < (bs.size:Int)
    ·exact zRh A0 n0 c0 A2 n2 c2 l k up k' g bs w B BK hv hk hl Ha Hb He Hc hE Hd h0 h1
    exact zRj A0 n0 c0 A2 n2 c2 l k up k' g bs w B BK hv hk hl Ha Hb He Hc hE Hd h0 (by omega)
   exact zRi A0 n0 c0 A2 n2 c2 l k up k' g bs w B BK hv hk hl Ha Hb He Hc hE Hd (by omega) (by omega)
  show Calls _ _ _ _ fun e w'=>StoreRet w' w.heap.size (l.set 0 (Scu.upTo bs up),0) e/\Below w.heap.size w w'
  by_cases h0:0<=up
  ·by_cases h1:up < (bs.size:Int)
   ·exact zRk A0 n0 c0 A2 n2 c2 l k up k' g bs w B BK hv hk hl Ha Hb He Hc hE Hd h0 h1
   exact zRm A0 n0 c0 A2 n2 c2 l k up k' g bs w B BK hv hk hl Ha Hb He Hc hE Hd h0 (by omega)
  exact zRl A0 n0 c0 A2 n2 c2 l k up k' g bs w B BK hv hk hl Ha Hb He Hc hE Hd (by omega) (by omega)
 rw [st1 hl he]
 exact zZc A0 n0 c0 A2 n2 c2 l k up k' g a e w B BK hv hk hl he
end Go.Proofs.YtnpphdaakookcaaDoor
