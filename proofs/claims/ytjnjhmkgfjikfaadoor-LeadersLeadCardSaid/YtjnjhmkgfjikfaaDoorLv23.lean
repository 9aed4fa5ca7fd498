/- Part 23: words and walks under the laws of the whole. -/
import Derived.Test.YtjnjhmkgfjikfaaDoorLv12
set_option linter.unusedVariables false
set_option linter.unusedSimpArgs false
set_option maxHeartbeats 4000000
set_option maxRecDepth 100000
namespace Go.Proofs.YtjnjhmkgfjikfaaDoor
open Go.RowKit
def NewRet (w:World) (r:Scu.Replica) (c:Int) (e:Ending):Prop:=∃ lu hv wv gv nv,e=.returned (.tuple #[.agg #[.int .i64 r.me,.int .i64 r.kept.view,.int .i64 r.kept.normal,.bool r.kept.calm,lu,.int .i64 r.kept.commit,hv,wv,gv,nv],.int .i64 c])/\IsRep w 0 lu hv wv gv nv r
theorem zGx (w:World) (c:Int):NewRet w Scu.replica0 c (.returned (.tuple #[.agg #[.int .i64 0,.int .i64 0,.int .i64 0,.bool false,.slice none 0 0,.int .i64 0,.slice none 0 0,.slice none 0 0,.slice none 0 0,.slice none 0 0],.int .i64 c])) :=
 ⟨_,_,_,_,_,rfl,IsStrs.nil_,⟨⟨none,0,rfl,mC _,Rd.nil⟩,by simp [Scu.replica0,R47]⟩,⟨⟨none,0,rfl,mC _,Rd.nil⟩,by simp [Scu.replica0,R47]⟩,IsRow.nil_,⟨⟨none,0,rfl,mC _,Rd.nil⟩,by simp [Scu.replica0,R47]⟩⟩
section
variable {me:Int} {k:Scu.Kept}
theorem nw1 (h:me < 0\/3<=me):Scu.repNew me k=(Scu.replica0,2):=if_pos h
theorem nw2 (h:¬ (me < 0\/3<=me)) (hk:Scu.keptFault k≠0):Scu.repNew me k=(Scu.replica0,Scu.keptFault k):=by unfold Scu.repNew;rw [if_neg h,if_pos hk]
theorem nw3 (h:¬ (me < 0\/3<=me)) (hk:¬ Scu.keptFault k≠0):Scu.repNew me k=(⟨me,k,[0,0,0],[false,false,false],[Scu.kept0,Scu.kept0,Scu.kept0],[false,false,false]⟩,0):=by unfold Scu.repNew;rw [if_neg h,if_neg hk]
end
theorem zDj (lv:Value) (k:Scu.Kept) (w:World) (B:Nat) (hv:IsStrs w B lv k.log) (f:Int) (h:Scu.keptFault k=f) :
 Calls Tryd.prog 18 #[.agg #[.int .i64 k.view,.int .i64 k.normal,.bool k.calm,lv,.int .i64 k.commit]] w fun e w'=>e=.returned (.int .i64 f)/\Below w.heap.size w w':=by
 have:=zBo lv k w B hv
 rw [h] at this
 exact this
theorem zKh (A:Option Addr) (n c:Nat) (me:Int) (k:Scu.Kept) (w:World) (hm:me < 0\/3<=me) :
 Calls Tryd.prog 5 #[.int .i64 me,.agg #[.int .i64 k.view,.int .i64 k.normal,.bool k.calm,.slice A n c,.int .i64 k.commit]] w fun e w'=>NewRet w' Scu.replica0 2 e/\Below w.heap.size w w':=by
 have hb:Below w.heap.size w ((w.alloc (.cells #[.int .i64 k.view,.int .i64 k.normal,.bool k.calm,.slice A n c,.int .i64 k.commit] 25)).alloc (.cells zR 30)):=(zAa w _).alloc (by simp) _
 rcases hm with hm | hm
 all_goals
  go_enter Tryd.func5,Tryd.ntmps5
  go_wp2
  refine bodyPost_ret (v:=.tuple #[.agg zR,.int .i64 2]) (by simp [results,Tryd.results5,go_sem]) rfl ?_
  exact ⟨zGx _ _,hb⟩
theorem zKi (A:Option Addr) (n c:Nat) (me:Int) (k:Scu.Kept) (w:World) (B:Nat) (hk:IsStrs w B (.slice A n c) k.log) (Hb:0<=me) (hm:me < 3) (f:Int) (hf:Scu.keptFault k=f) (h0:f≠0) :
 Calls Tryd.prog 5 #[.int .i64 me,.agg #[.int .i64 k.view,.int .i64 k.normal,.bool k.calm,.slice A n c,.int .i64 k.commit]] w fun e w'=>NewRet w' Scu.replica0 f e/\Below w.heap.size w w':=by
 have HK:=mA hk
 have HF:=mA hf
 have Hc:(f != 0)=true:=by simpa using h0
 clear hk hf h0
 go_enter Tryd.func5,Tryd.ntmps5
 go_wp2_with fail
 have Ha:Below w.heap.size w ((w.alloc (.cells #[.int .i64 k.view,.int .i64 k.normal,.bool k.calm,.slice A n c,.int .i64 k.commit] 25)).alloc (.cells zR 30)):=(zAa w _).alloc (by simp) _
 refine (zDj _ k _ B (HK.out.below Ha) f HF.out).mono ?_;rintro en w1 ⟨rfl,h1⟩
 have hz:Blk w1 (w.heap.size+1) 30 zR:=(Blk.new' (by simp)).same h1
 have hb:=Ha.trans (h1.mono Ha.size)
 obtain ⟨z0,z1,z2,z3,z4,z5,z6,z7,z8,z9⟩:=cz10 hz
 have zz:=hz.frozen
 have zl:=hz.lt
 have hr:=zAj (a0:=.int .i64 0) (a1:=.int .i64 0) (a2:=.int .i64 0) (a3:=.bool false) (a4:=.slice none 0 0) (a5:=.int .i64 0) (a6:=.slice none 0 0) (a7:=.slice none 0 0) (a8:=.slice none 0 0) (a9:=.slice none 0 0) hz
 obtain ⟨r0,r1,r2,r3,r4,r5,r6,r7,r8,r9⟩:=cz10 hr
 have rz:=hr.frozen
 have rl:=hr.lt
 clear h1 Ha
 go_wp2
 refine bodyPost_ret (v:=.tuple #[.agg zR,.int .i64 f]) (by simp [results,Tryd.results5,go_sem,r0,r1,r2,r3,r4,r5,r6,r7,r8,r9]) rfl ?_
 exact ⟨zGx _ _,zAf hb (by omega)⟩
structure NewI (me:Int) (k:Scu.Kept) (b:Nat) (L:Array Bool) (x20 x21 x22 x23 x24 x25 x26 x27 kv:Value) (W:World):Prop where
 f0:Dn L 0->x20=.int .i64 me
 f1:Dn L 1->x21=kv
 f2:Dn L 2->∃ lu,x22=.agg #[.int .i64 k.view,.int .i64 k.normal,.bool k.calm,lu,.int .i64 k.commit]/\IsStrs W 0 lu k.log
 f3:Dn L 3->IsOnes 3 8 vInt W 0 x23 [0,0,0]
 f4:Dn L 4->IsOnes 4 1 Value.bool W 0 x24 [false,false,false]
 f5:Dn L 5->IsRow 25 5 56 KeptEl W 0 x25 [Scu.kept0,Scu.kept0,Scu.kept0]
 f6:Dn L 6->IsOnes 4 1 Value.bool W 0 x26 [false,false,false]
 f7:Dn L 7->∃ lu hv wv gv nv,x27=.agg #[.int .i64 me,.int .i64 k.view,.int .i64 k.normal,.bool k.calm,lu,.int .i64 k.commit,hv,wv,gv,nv]/\IsRep W 0 lu hv wv gv nv ⟨me,k,[0,0,0],[false,false,false],[Scu.kept0,Scu.kept0,Scu.kept0],[false,false,false]⟩
 f8:Dn L 8->∃ lu hv wv gv nv,Blk W b 30 #[.int .i64 me,.int .i64 k.view,.int .i64 k.normal,.bool k.calm,lu,.int .i64 k.commit,hv,wv,gv,nv]/\IsRep W 0 lu hv wv gv nv ⟨me,k,[0,0,0],[false,false,false],[Scu.kept0,Scu.kept0,Scu.kept0],[false,false,false]⟩
 res:¬ Dn L 8->Blk W b 30 #[.int .i64 0,.int .i64 0,.int .i64 0,.bool false,.slice none 0 0,.int .i64 0,.slice none 0 0,.slice none 0 0,.slice none 0 0,.slice none 0 0]
theorem NewI.below {me:Int} {k:Scu.Kept} {b:Nat} {L:Array Bool} {x20 x21 x22 x23 x24 x25 x26 x27 kv:Value} {W W':World} (h:NewI me k b L x20 x21 x22 x23 x24 x25 x26 x27 kv W) (hb:Below W.heap.size W W'):NewI me k b L x20 x21 x22 x23 x24 x25 x26 x27 kv W' :=
 ⟨h.f0,h.f1,fun d=>let ⟨lu,e,g⟩:=h.f2 d;⟨lu,e,g.below hb⟩,fun d=>(h.f3 d).below hb,fun d=>(h.f4 d).below hb,
  fun d=>(h.f5 d).same (Ts:=[9,25]) (by simp) (Same.below hb) (fun _ _ hk=>hk.same (Ts:=[9]) (by simp) (Same.below hb)),fun d=>(h.f6 d).below hb,
  fun d=>let ⟨a1,a2,a3,a4,a5,e,g⟩:=h.f7 d;⟨a1,a2,a3,a4,a5,e,g.below hb⟩,fun d=>let ⟨a1,a2,a3,a4,a5,e,g⟩:=h.f8 d;⟨a1,a2,a3,a4,a5,e.same hb,g.below hb⟩,fun d=>(h.res d).same hb⟩
theorem zCz {L:Array Bool} {i k:Nat} (h:¬ Dn (L.setIfInBounds i true) k):¬ Dn L k:=fun hd=>h (by
 unfold Dn at *
 by_cases e:i=k
 ·subst e
  rw [Array.getD_eq_getD_getElem?] at hd ⊢
  rcases Nat.lt_or_ge i L.size with hl | hl
  ·simp [hl]
  rw [Array.getElem?_eq_none hl] at hd;cases hd
 rw [Array.getD_eq_getD_getElem?,Array.getElem?_setIfInBounds_ne e,<- Array.getD_eq_getD_getElem?]
 exact hd)
theorem zFt {L:Array Bool} {j:Nat} (h:L[j]?.getD false=true):Dn L j:=by
 unfold Dn
 rw [Array.getD_eq_getD_getElem?]
 exact h
theorem zMb {L:Array Bool} {i:Nat} (h:i < L.size):Dn (L.setIfInBounds i true) i:=by
 unfold Dn
 rw [Array.getD_eq_getD_getElem?]
 simp [h]
theorem zNc {L:Array Bool} {i:Nat} (h:L.getD i true=false):¬ Dn L i:=fun hd=>by
 unfold Dn at hd
 rw [Array.getD_eq_getD_getElem?] at h hd
 cases e:L[i]? with
 | none=>rw [e] at hd;cases hd
 | some b=>rw [e] at h hd;simp at h hd;rw [h] at hd;cases hd
theorem zKj {W W':World} {g:Nat} {t:TypeId} {cs:Array Value} {Ts:List TypeId} (h:Blk W g t cs) (hs:Same Ts 0 W W') (ht:t ∈ Ts):Blk W' g t cs:=(hs.keep g h.lt (.inr ⟨_,_,_,ht,h⟩)).trans h
theorem NewI.store {me:Int} {k:Scu.Kept} {b:Nat} {L:Array Bool} {x20 x21 x22 x23 x24 x25 x26 x27 kv lu hv wv gv nv:Value} {w:World} (h:NewI me k b L x20 x21 x22 x23 x24 x25 x26 x27 kv w) (hl:8 < L.size) (hz:Blk w b 30 #[.int .i64 0,.int .i64 0,.int .i64 0,.bool false,.slice none 0 0,.int .i64 0,.slice none 0 0,.slice none 0 0,.slice none 0 0,.slice none 0 0])
 (hr:IsRep w 0 lu hv wv gv nv ⟨me,k,[0,0,0],[false,false,false],[Scu.kept0,Scu.kept0,Scu.kept0],[false,false,false]⟩) :
 NewI me k b (L.setIfInBounds 8 true) x20 x21 x22 x23 x24 x25 x26 x27 kv ((((((((((w.setCell ⟨b,0,none⟩ (.int .i64 me)).setCell ⟨b,1,none⟩ (.int .i64 k.view)).setCell ⟨b,2,none⟩ (.int .i64 k.normal)).setCell ⟨b,3,none⟩ (.bool k.calm)).setCell ⟨b,4,none⟩ lu).setCell ⟨b,5,none⟩ (.int .i64 k.commit)).setCell ⟨b,6,none⟩ hv).setCell ⟨b,7,none⟩ wv).setCell ⟨b,8,none⟩ gv).setCell ⟨b,9,none⟩ nv):=by
 have hs:=Same.sets10 (Ts:=[9,3,4,25]) (B:=0) (a0:=.int .i64 me) (a1:=.int .i64 k.view) (a2:=.int .i64 k.normal) (a3:=.bool k.calm) (a4:=lu) (a5:=.int .i64 k.commit) (a6:=hv) (a7:=wv) (a8:=gv) (a9:=nv) hz (mE _) (by decide)
 exact ⟨fun d=>h.f0 (zAc d (by decide)),fun d=>h.f1 (zAc d (by decide)),fun d=>let ⟨l,e,g⟩:=h.f2 (zAc d (by decide));⟨l,e,g.same (by simp) hs⟩,fun d=>(h.f3 (zAc d (by decide))).same (by simp) hs,fun d=>(h.f4 (zAc d (by decide))).same (by simp) hs,
  fun d=>(h.f5 (zAc d (by decide))).same (by simp) hs (fun _ _ hk=>hk.same (by simp) hs),fun d=>(h.f6 (zAc d (by decide))).same (by simp) hs,fun d=>let ⟨a1,a2,a3,a4,a5,e,g⟩:=h.f7 (zAc d (by decide));⟨a1,a2,a3,a4,a5,e,g.same hs⟩,
  fun _=>⟨_,_,_,_,_,zAj hz,hr.same hs⟩,fun d=>(d (zMb hl)).elim⟩
theorem zIq (w:World):(Instr.makeSlice 26 (.int .i64 3) (.int .i64 3)).run Tryd.prog w=.ok (.slice (some ⟨w.heap.size,0,none⟩) 3 3) (w.alloc (.cells #[.int .i64 0,.int .i64 0,.int .i64 0] 3)):=by kernel_rfl
theorem zHl (w:World):(Instr.makeSlice 27 (.int .i64 3) (.int .i64 3)).run Tryd.prog w=.ok (.slice (some ⟨w.heap.size,0,none⟩) 3 3) (w.alloc (.cells #[.bool false,.bool false,.bool false] 4)):=by kernel_rfl
theorem zHm (w:World):(Instr.makeSlice 28 (.int .i64 3) (.int .i64 3)).run Tryd.prog w=.ok (.slice (some ⟨w.heap.size,0,none⟩) 3 3) (w.alloc (.cells #[.int .i64 0,.int .i64 0,.bool false,.slice none 0 0,.int .i64 0,.int .i64 0,.int .i64 0,.bool false,.slice none 0 0,.int .i64 0,.int .i64 0,.int .i64 0,.bool false,.slice none 0 0,.int .i64 0] 25)):=by kernel_rfl
theorem zFc {α:Type} {t:TypeId} {bytes:Nat} {f:α->Value} {w:World} {g:Nat} {xs:List α} (h:Blk w g t (xs.map f).toArray) (h1:xs.length*bytes<=R47):IsOnes t bytes f w 0 (.slice (some ⟨g,0,none⟩) xs.length xs.length) xs :=
 ⟨⟨_,_,rfl,mC _,.inr ⟨g,0,rfl,h.lt,.inr ⟨_,_,h⟩,fun j u hj=>by
   rw [h.cell]
   simpa using hj⟩⟩,h1⟩
theorem zIr {w:World} {g:Nat} (h:Blk w g 25 #[.int .i64 0,.int .i64 0,.bool false,.slice none 0 0,.int .i64 0,.int .i64 0,.int .i64 0,.bool false,.slice none 0 0,.int .i64 0,.int .i64 0,.int .i64 0,.bool false,.slice none 0 0,.int .i64 0]) :
 IsRow 25 5 56 KeptEl w 0 (.slice (some ⟨g,0,none⟩) 3 3) [Scu.kept0,Scu.kept0,Scu.kept0] :=
 ⟨⟨some ⟨g,0,none⟩,3,[keptV Scu.kept0 (.slice none 0 0),keptV Scu.kept0 (.slice none 0 0),keptV Scu.kept0 (.slice none 0 0)],rfl,mC _,rfl,(fun cs hc=>by
  simp only [List.mem_cons,List.not_mem_nil,or_false] at hc
  rcases hc with rfl | rfl | rfl <;> rfl),.inr ⟨g,0,rfl,h.lt,.inr ⟨_,_,h⟩,fun j u hj=>by
   rw [h.cell]
   simpa [keptV,Scu.kept0] using hj⟩,fun j cs x hc hx=>by
    rcases j with _ | _ | _ | j <;> simp only [List.getElem?_cons_zero,List.getElem?_cons_succ,List.getElem?_nil,Option.some.injEq,reduceCtorEq] at hc hx <;> (subst hc;subst hx;exact ⟨_,rfl,IsStrs.nil_⟩)⟩,by simp [R47]⟩
theorem zKk (A:Option Addr) (n c:Nat) (me:Int) (k:Scu.Kept) (w:World) (B:Nat) (hk:IsStrs w B (.slice A n c) k.log) (Hk:0<=me) (hm:me < 3) (hf:Scu.keptFault k=0) :
 Calls Tryd.prog 5 #[.int .i64 me,.agg #[.int .i64 k.view,.int .i64 k.normal,.bool k.calm,.slice A n c,.int .i64 k.commit]] w fun e w'=>NewRet w' ⟨me,k,[0,0,0],[false,false,false],[Scu.kept0,Scu.kept0,Scu.kept0],[false,false,false]⟩ 0 e/\Below w.heap.size w w':=by
 have HK:=mA hk
 have HF:=mA hf
 clear hk hf
 go_enter Tryd.func5,Tryd.ntmps5
 go_wp2_with fail
 have Hg:Below w.heap.size w ((w.alloc (.cells #[.int .i64 k.view,.int .i64 k.normal,.bool k.calm,.slice A n c,.int .i64 k.commit] 25)).alloc (.cells zR 30)):=(zAa w _).alloc (by simp) _
 refine (zDj _ k _ B (HK.out.below Hg) 0 HF.out).mono ?_;rintro en w1 ⟨rfl,h1⟩
 have hz:Blk w1 (w.heap.size+1) 30 zR:=(Blk.new' (by simp)).same h1
 have hs:Blk w1 w.heap.size 25 #[.int .i64 k.view,.int .i64 k.normal,.bool k.calm,.slice A n c,.int .i64 k.commit]:=((Blk.new w _ _).alloc _).same h1
 have hb:=Hg.trans (h1.mono Hg.size)
 go_upto_region 6 with fail
 have Hl:=zIq
 have Hm:=zHl
 have Hn:=zHm
 refine zEy (by kernel_rfl) (fun L a W=>L.size=10/\∃ x20 x21 x22 x23 x24 x25 x26 x27,a=⟨#[.int .i64 me,.agg #[.int .i64 k.view,.int .i64 k.normal,.bool k.calm,.slice A n c,.int .i64 k.commit],undef,.pointer (some ⟨w.heap.size,0,none⟩),.pointer (some ⟨w.heap.size+1,0,none⟩),.int .i64 0,.int .i64 0,.int .i64 me,.bool (decide (me < 0)),.bool (decide (me < 0)),.int .i64 me,.bool (decide (3<=me)),.bool (decide (me < 0) || decide (3<=me)),undef,.agg #[.int .i64 k.view,.int .i64 k.normal,.bool k.calm,.slice A n c,.int .i64 k.commit],.int .i64 0,.int .i64 0,.bool false,undef,undef,x20,x21,x22,x23,x24,x25,x26,x27],[]⟩/\Hid (Blk W w.heap.size 25 #[.int .i64 k.view,.int .i64 k.normal,.bool k.calm,.slice A n c,.int .i64 k.commit]/\Below w.heap.size w W/\NewI me k (w.heap.size+1) L x20 x21 x22 x23 x24 x25 x26 x27 (.agg #[.int .i64 k.view,.int .i64 k.normal,.bool k.calm,.slice A n c,.int .i64 k.commit]) W)) ?_ ?_ ?_
 ·exact ⟨by simp,undef,undef,undef,undef,undef,undef,undef,undef,rfl,mA ⟨hs.drew,hb.drew,⟨fun h=>(zBv h).elim,fun h=>(zBv h).elim,fun h=>(zBv h).elim,fun h=>(zBv h).elim,fun h=>(zBv h).elim,fun h=>(zBv h).elim,fun h=>(zBv h).elim,fun h=>(zBv h).elim,fun h=>(zBv h).elim,fun _=>hz.drew⟩⟩⟩
 ·intro L a W i hI hi
  obtain ⟨hl,x20,x21,x22,x23,x24,x25,x26,x27,rfl,hX⟩:=hI
  obtain ⟨Hb,Ha,hN⟩:=hX.out
  obtain ⟨Hh,Hi,Hc⟩:=mem_ready hi
  have Hf:i=0\/i=1\/i=2\/i=3\/i=4\/i=5\/i=6\/i=7\/i=8\/i=9:=by simp at Hh;omega
  obtain ⟨q0,q1,q2,q3,q4⟩:=cz5 Hb
  have HX:=mA (mB Hb (mB Ha hN))
  clear hi Hh hX Hb Ha hN hz hs hb Hg h1
  rcases Hf with rfl | rfl | rfl | rfl | rfl | rfl | rfl | rfl | rfl | rfl
  ·clear Hc
   refine zBr rfl rfl ?_
   go_simp
   obtain ⟨Hb,Ha,hN⟩:=HX.out
   exact ⟨_,_,_,_,_,_,_,_,⟨rfl,rfl,rfl,rfl,rfl,rfl,rfl,rfl⟩,mA ⟨Hb,Ha,⟨fun _=>rfl,fun d=>hN.f1 (zAc d (by decide)),fun d=>hN.f2 (zAc d (by decide)),fun d=>hN.f3 (zAc d (by decide)),fun d=>hN.f4 (zAc d (by decide)),fun d=>hN.f5 (zAc d (by decide)),fun d=>hN.f6 (zAc d (by decide)),fun d=>hN.f7 (zAc d (by decide)),fun d=>hN.f8 (zAc d (by decide)),fun d=>hN.res (zCz d)⟩⟩⟩
  ·clear Hc
   refine zBr rfl rfl ?_
   go_simp
   obtain ⟨Hb,Ha,hN⟩:=HX.out
   exact ⟨_,_,_,_,_,_,_,_,⟨rfl,rfl,rfl,rfl,rfl,rfl,rfl,rfl⟩,mA ⟨Hb,Ha,⟨fun d=>hN.f0 (zAc d (by decide)),fun _=>rfl,fun d=>hN.f2 (zAc d (by decide)),fun d=>hN.f3 (zAc d (by decide)),fun d=>hN.f4 (zAc d (by decide)),fun d=>hN.f5 (zAc d (by decide)),fun d=>hN.f6 (zAc d (by decide)),fun d=>hN.f7 (zAc d (by decide)),fun d=>hN.f8 (zAc d (by decide)),fun d=>hN.res (zCz d)⟩⟩⟩
  ·simp [Region.binds] at Hc
   have g1:=HX.out.2.2.f1 (zFt Hc)
   subst g1
   refine zBr rfl rfl ?_
   go_simp
   refine (zCp _ k W B (HK.out.below HX.out.2.1)).mono ?_;rintro en W2 ⟨⟨lu,rfl,hu⟩,h2⟩
   obtain ⟨Hb,Ha,He⟩:=HX.out
   have hN:=He.below h2
   exact ⟨_,_,_,_,_,_,_,_,⟨rfl,rfl,rfl,rfl,rfl,rfl,rfl,rfl⟩,mA ⟨Hb.same h2,Ha.trans (h2.mono Ha.size),⟨fun d=>hN.f0 (zAc d (by decide)),fun d=>hN.f1 (zAc d (by decide)),fun _=>⟨_,rfl,hu.is⟩,fun d=>hN.f3 (zAc d (by decide)),fun d=>hN.f4 (zAc d (by decide)),fun d=>hN.f5 (zAc d (by decide)),fun d=>hN.f6 (zAc d (by decide)),fun d=>hN.f7 (zAc d (by decide)),fun d=>hN.f8 (zAc d (by decide)),fun d=>hN.res (zCz d)⟩⟩⟩
  ·clear Hc
   refine zBr rfl rfl ?_
   go_simp
   obtain ⟨Hb,Ha,He⟩:=HX.out
   have hN:=He.below (zAa W (.cells #[.int .i64 0,.int .i64 0,.int .i64 0] 3))
   have hn:Blk (W.alloc (.cells #[.int .i64 0,.int .i64 0,.int .i64 0] 3)) W.heap.size 3 #[.int .i64 0,.int .i64 0,.int .i64 0]:=Blk.new _ _ _
   exact ⟨_,_,_,_,_,_,_,_,⟨rfl,rfl,rfl,rfl,rfl,rfl,rfl,rfl⟩,mA ⟨Hb.alloc _,Ha.alloc Ha.size _,⟨fun d=>hN.f0 (zAc d (by decide)),fun d=>hN.f1 (zAc d (by decide)),fun d=>hN.f2 (zAc d (by decide)),fun _=>zFc (xs:=[0,0,0]) hn (by simp [R47]),fun d=>hN.f4 (zAc d (by decide)),fun d=>hN.f5 (zAc d (by decide)),fun d=>hN.f6 (zAc d (by decide)),fun d=>hN.f7 (zAc d (by decide)),fun d=>hN.f8 (zAc d (by decide)),fun d=>hN.res (zCz d)⟩⟩⟩
  ·clear Hc
   refine zBr rfl rfl ?_
   go_simp
   obtain ⟨Hb,Ha,He⟩:=HX.out
   have hN:=He.below (zAa W (.cells #[.bool false,.bool false,.bool false] 4))
   have hn:Blk (W.alloc (.cells #[.bool false,.bool false,.bool false] 4)) W.heap.size 4 #[.bool false,.bool false,.bool false]:=Blk.new _ _ _
   exact ⟨_,_,_,_,_,_,_,_,⟨rfl,rfl,rfl,rfl,rfl,rfl,rfl,rfl⟩,mA ⟨Hb.alloc _,Ha.alloc Ha.size _,⟨fun d=>hN.f0 (zAc d (by decide)),fun d=>hN.f1 (zAc d (by decide)),fun d=>hN.f2 (zAc d (by decide)),fun d=>hN.f3 (zAc d (by decide)),fun _=>zFc (xs:=[false,false,false]) hn (by simp [R47]),fun d=>hN.f5 (zAc d (by decide)),fun d=>hN.f6 (zAc d (by decide)),fun d=>hN.f7 (zAc d (by decide)),fun d=>hN.f8 (zAc d (by decide)),fun d=>hN.res (zCz d)⟩⟩⟩
  ·clear Hc
   refine zBr rfl rfl ?_
   go_simp
   obtain ⟨Hb,Ha,He⟩:=HX.out
   have hN:=He.below (zAa W (.cells #[.int .i64 0,.int .i64 0,.bool false,.slice none 0 0,.int .i64 0,.int .i64 0,.int .i64 0,.bool false,.slice none 0 0,.int .i64 0,.int .i64 0,.int .i64 0,.bool false,.slice none 0 0,.int .i64 0] 25))
   have hn:Blk (W.alloc (.cells #[.int .i64 0,.int .i64 0,.bool false,.slice none 0 0,.int .i64 0,.int .i64 0,.int .i64 0,.bool false,.slice none 0 0,.int .i64 0,.int .i64 0,.int .i64 0,.bool false,.slice none 0 0,.int .i64 0] 25)) W.heap.size 25 #[.int .i64 0,.int .i64 0,.bool false,.slice none 0 0,.int .i64 0,.int .i64 0,.int .i64 0,.bool false,.slice none 0 0,.int .i64 0,.int .i64 0,.int .i64 0,.bool false,.slice none 0 0,.int .i64 0]:=Blk.new _ _ _
   exact ⟨_,_,_,_,_,_,_,_,⟨rfl,rfl,rfl,rfl,rfl,rfl,rfl,rfl⟩,mA ⟨Hb.alloc _,Ha.alloc Ha.size _,⟨fun d=>hN.f0 (zAc d (by decide)),fun d=>hN.f1 (zAc d (by decide)),fun d=>hN.f2 (zAc d (by decide)),fun d=>hN.f3 (zAc d (by decide)),fun d=>hN.f4 (zAc d (by decide)),fun _=>zIr hn,fun d=>hN.f6 (zAc d (by decide)),fun d=>hN.f7 (zAc d (by decide)),fun d=>hN.f8 (zAc d (by decide)),fun d=>hN.res (zCz d)⟩⟩⟩
  ·clear Hc
   refine zBr rfl rfl ?_
   go_simp
   obtain ⟨Hb,Ha,He⟩:=HX.out
   have hN:=He.below (zAa W (.cells #[.bool false,.bool false,.bool false] 4))
   have hn:Blk (W.alloc (.cells #[.bool false,.bool false,.bool false] 4)) W.heap.size 4 #[.bool false,.bool false,.bool false]:=Blk.new _ _ _
   exact ⟨_,_,_,_,_,_,_,_,⟨rfl,rfl,rfl,rfl,rfl,rfl,rfl,rfl⟩,mA ⟨Hb.alloc _,Ha.alloc Ha.size _,⟨fun d=>hN.f0 (zAc d (by decide)),fun d=>hN.f1 (zAc d (by decide)),fun d=>hN.f2 (zAc d (by decide)),fun d=>hN.f3 (zAc d (by decide)),fun d=>hN.f4 (zAc d (by decide)),fun d=>hN.f5 (zAc d (by decide)),fun _=>zFc (xs:=[false,false,false]) hn (by simp [R47]),fun d=>hN.f7 (zAc d (by decide)),fun d=>hN.f8 (zAc d (by decide)),fun d=>hN.res (zCz d)⟩⟩⟩
  ·simp [Region.binds] at Hc
   obtain ⟨d0,d2,d3,d4,d5,d6⟩:=Hc
   have g0:=HX.out.2.2.f0 (zFt d0)
   obtain ⟨lu,g2,gu⟩:=HX.out.2.2.f2 (zFt d2)
   have g3:=HX.out.2.2.f3 (zFt d3)
   have g4:=HX.out.2.2.f4 (zFt d4)
   have g5:=HX.out.2.2.f5 (zFt d5)
   have g6:=HX.out.2.2.f6 (zFt d6)
   obtain ⟨A0,n0,c0,rfl⟩:=gu.form
   obtain ⟨A1,n1,c1,rfl⟩:=g3.form
   obtain ⟨A2,n2,c2,rfl⟩:=g4.form
   obtain ⟨A3,n3,c3,rfl⟩:=g5.form
   obtain ⟨A4,n4,c4,rfl⟩:=g6.form
   subst g0
   subst g2
   have HR:=mA (show IsRep W 0 (.slice A0 n0 c0) (.slice A1 n1 c1) (.slice A2 n2 c2) (.slice A3 n3 c3) (.slice A4 n4 c4) ⟨me,k,[0,0,0],[false,false,false],[Scu.kept0,Scu.kept0,Scu.kept0],[false,false,false]⟩ from ⟨gu,g3,g4,g5,g6⟩)
   clear gu g3 g4 g5 g6 d0 d2 d3 d4 d5 d6
   refine zBr rfl rfl ?_
   go_simp
   obtain ⟨Hb,Ha,hN⟩:=HX.out
   exact ⟨_,_,_,_,_,_,_,_,⟨rfl,rfl,rfl,rfl,rfl,rfl,rfl,rfl⟩,mA ⟨Hb,Ha,⟨fun d=>hN.f0 (zAc d (by decide)),fun d=>hN.f1 (zAc d (by decide)),fun d=>hN.f2 (zAc d (by decide)),fun d=>hN.f3 (zAc d (by decide)),fun d=>hN.f4 (zAc d (by decide)),fun d=>hN.f5 (zAc d (by decide)),fun d=>hN.f6 (zAc d (by decide)),fun _=>⟨_,_,_,_,_,rfl,HR.out⟩,fun d=>hN.f8 (zAc d (by decide)),fun d=>hN.res (zCz d)⟩⟩⟩
  ·have d8:=zNc Hi
   simp [Region.binds] at Hc
   obtain ⟨d7,_⟩:=Hc
   obtain ⟨lu,hv,wv,gv,nv,g7,gr⟩:=HX.out.2.2.f7 (zFt d7)
   obtain ⟨A0,n0,c0,A1,c1,A2,c2,A3,c3,A4,c4,rfl,rfl,rfl,rfl,rfl⟩:=gr.forms
   subst g7
   have Hd:=HX.out.2.2.res d8
   obtain ⟨z0,z1,z2,z3,z4,z5,z6,z7,z8,z9⟩:=cz10 Hd
   have zz:=Hd.frozen
   have zl:=Hd.lt
   have HR:=mA gr
   have HS:=mA Hd
   clear gr Hd d7
   refine zBr rfl rfl ?_
   go_simp
   obtain ⟨Hb,Ha,hN⟩:=HX.out
   have Hj:=Same.sets10 (Ts:=[25]) (B:=0) (a0:=.int .i64 me) (a1:=.int .i64 k.view) (a2:=.int .i64 k.normal) (a3:=.bool k.calm) (a4:=.slice A0 n0 c0) (a5:=.int .i64 k.commit) (a6:=.slice A1 3 c1) (a7:=.slice A2 3 c2) (a8:=.slice A3 3 c3) (a9:=.slice A4 3 c4) HS.out (mE _) (by decide)
   exact ⟨_,_,_,_,_,_,_,_,⟨rfl,rfl,rfl,rfl,rfl,rfl,rfl,rfl⟩,mA ⟨zKj Hb Hj (by simp),zAf Ha (Nat.le_succ _),hN.store (by omega) HS.out HR.out⟩⟩
  clear Hc
  refine zBr rfl rfl ?_
  go_simp
  obtain ⟨Hb,Ha,hN⟩:=HX.out
  exact ⟨_,_,_,_,_,_,_,_,⟨rfl,rfl,rfl,rfl,rfl,rfl,rfl,rfl⟩,mA ⟨Hb,Ha,⟨fun d=>hN.f0 (zAc d (by decide)),fun d=>hN.f1 (zAc d (by decide)),fun d=>hN.f2 (zAc d (by decide)),fun d=>hN.f3 (zAc d (by decide)),fun d=>hN.f4 (zAc d (by decide)),fun d=>hN.f5 (zAc d (by decide)),fun d=>hN.f6 (zAc d (by decide)),fun d=>hN.f7 (zAc d (by decide)),fun d=>hN.f8 (zAc d (by decide)),fun d=>hN.res (zCz d)⟩⟩⟩
 intro L a W hI hr
 obtain ⟨hl,x20,x21,x22,x23,x24,x25,x26,x27,rfl,hX⟩:=hI
 obtain ⟨Hb,Ha,hN⟩:=hX.out
 have hd:=zJh (by kernel_rfl) hl hr 8 (by simp)
 obtain ⟨lu,hv,wv,gv,nv,hB,hR⟩:=hN.f8 hd
 obtain ⟨r0,r1,r2,r3,r4,r5,r6,r7,r8,r9⟩:=cz10 hB
 have rz:=hB.frozen
 have rl:=hB.lt
 clear hX Hb hN hr hl hd
 rename_i hK
 refine hK _ _ (Go.wp_ret ?_)
 refine bodyPost_ret (v:=.tuple #[.agg #[.int .i64 me,.int .i64 k.view,.int .i64 k.normal,.bool k.calm,lu,.int .i64 k.commit,hv,wv,gv,nv],.int .i64 0]) (by simp [results,Tryd.results5,go_sem,r0,r1,r2,r3,r4,r5,r6,r7,r8,r9]) rfl ?_
 exact ⟨⟨_,_,_,_,_,rfl,hR⟩,Ha⟩
theorem zKl (lv:Value) (me:Int) (k:Scu.Kept) (w:World) (B:Nat) (hk:IsStrs w B lv k.log) :
 Calls Tryd.prog 5 #[.int .i64 me,.agg #[.int .i64 k.view,.int .i64 k.normal,.bool k.calm,lv,.int .i64 k.commit]] w fun e w'=>NewRet w' (Scu.repNew me k).1 (Scu.repNew me k).2 e/\Below w.heap.size w w':=by
 obtain ⟨A,n,c,rfl⟩:=hk.form
 by_cases hm:me < 0\/3<=me
 ·rw [nw1 hm]
  exact zKh A n c me k w hm
 by_cases hf:Scu.keptFault k≠0
 ·rw [nw2 hm hf]
  exact zKi A n c me k w B hk (by omega) (by omega) _ rfl hf
 rw [nw3 hm hf]
 exact zKk A n c me k w B hk (by omega) (by omega) (Decidable.not_not.1 hf)
end Go.Proofs.YtjnjhmkgfjikfaaDoor
