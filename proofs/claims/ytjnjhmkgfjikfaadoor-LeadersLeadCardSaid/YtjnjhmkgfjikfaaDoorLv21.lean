/- Part 21: words and walks under the laws of the whole. -/
import Derived.Test.YtjnjhmkgfjikfaaDoorLv10
import Derived.Test.YtjnjhmkgfjikfaaDoorLv15
set_option linter.unusedVariables false
set_option linter.unusedSimpArgs false
set_option maxHeartbeats 4000000
set_option maxRecDepth 100000
namespace Go.Proofs.YtjnjhmkgfjikfaaDoor
open Go.RowKit
theorem zLs (lv hv wv gv nv:Value) (r:Scu.Replica) (w:World) (B:Nat) (hr:IsRep w B lv hv wv gv nv r) (f:Int) (hf:Scu.repFault r=f) (hn:f≠0) :
 Calls Tryd.prog 13 #[.agg #[.int .i64 r.me,.int .i64 r.kept.view,.int .i64 r.kept.normal,.bool r.kept.calm,lv,.int .i64 r.kept.commit,hv,wv,gv,nv]] w fun e w'=>TellN w.heap.size w' Scu.replica0 [] f e/\Below w.heap.size w w':=by
 have Ha:(f != 0)=true:=by simpa using hn
 have HN:=mA hn
 clear hn
 have HV:=mA hr
 have HF:=mA hf
 obtain ⟨A0,n0,c0,A1,c1,A2,c2,A3,c3,A4,c4,rfl,rfl,rfl,rfl,rfl⟩:=hr.forms
 clear hr hf
 go_enter Tryd.func13,Tryd.ntmps13
 go_wp2_with fail
 have h0:Below w.heap.size w ((w.alloc (.cells (rN r A0 n0 c0 A1 c1 A2 c2 A3 c3 A4 c4) 30)).alloc (.cells zR 30)):=(zAa w _).alloc (by simp) _
 refine (zGg _ _ _ _ _ r _ B (HV.out.below h0) f HF.out HN.out).mono ?_;rintro en w1 ⟨rfl,h1⟩
 have hz:Blk w1 (w.heap.size+1) 30 zR:=(Blk.new' (by simp)).same h1
 have hb:=h0.trans (h1.mono h0.size)
 obtain ⟨z0,z1,z2,z3,z4,z5,z6,z7,z8,z9⟩:=cz10 hz
 have zz:=hz.frozen
 have zl:=hz.lt
 have hr:=zAj (a0:=.int .i64 0) (a1:=.int .i64 0) (a2:=.int .i64 0) (a3:=.bool false) (a4:=.slice none 0 0) (a5:=.int .i64 0) (a6:=.slice none 0 0) (a7:=.slice none 0 0) (a8:=.slice none 0 0) (a9:=.slice none 0 0) hz
 obtain ⟨r0,r1,r2,r3,r4,r5,r6,r7,r8,r9⟩:=cz10 hr
 have rz:=hr.frozen
 have rl:=hr.lt
 clear h1 h0
 go_wp2
 refine bodyPost_ret (v:=.tuple #[.agg zR,.slice none 0 0,.int .i64 f]) (by simp [results,Tryd.results13,go_sem,r0,r1,r2,r3,r4,r5,r6,r7,r8,r9]) rfl ?_
 exact ⟨zAp _ _ _,zAf hb (by omega)⟩
theorem zLt (lv hv wv gv nv:Value) (r:Scu.Replica) (w:World) (B:Nat) (hr:IsRep w B lv hv wv gv nv r) (hf:Scu.repFault r=0) (hm:r.kept.view=1048576) :
 Calls Tryd.prog 13 #[.agg #[.int .i64 r.me,.int .i64 r.kept.view,.int .i64 r.kept.normal,.bool r.kept.calm,lv,.int .i64 r.kept.commit,hv,wv,gv,nv]] w fun e w'=>TellN w.heap.size w' Scu.replica0 [] 7 e/\Below w.heap.size w w':=by
 have Hc:(r.kept.view == 1048576)=true:=by simpa using hm
 clear hm
 have Hd:=zAu hf
 have HV:=mA hr
 have HF:=mA hf
 obtain ⟨A0,n0,c0,A1,c1,A2,c2,A3,c3,A4,c4,rfl,rfl,rfl,rfl,rfl⟩:=hr.forms
 clear hr hf
 go_enter Tryd.func13,Tryd.ntmps13
 go_wp2_with fail
 have h0:Below w.heap.size w ((w.alloc (.cells (rN r A0 n0 c0 A1 c1 A2 c2 A3 c3 A4 c4) 30)).alloc (.cells zR 30)):=(zAa w _).alloc (by simp) _
 refine (zAz _ _ _ _ _ r _ B (HV.out.below h0) HF.out).mono ?_;rintro en w1 ⟨⟨gw,gr,lu,hu,wu,gu,nu,rfl,hW,Ha⟩,h1⟩
 have e2:((w.alloc (.cells (rN r A0 n0 c0 A1 c1 A2 c2 A3 c3 A4 c4) 30)).alloc (.cells zR 30)).heap.size=w.heap.size+2:=by simp
 rw [e2] at hW Ha
 have hs:Blk w1 w.heap.size 30 (rN r A0 n0 c0 A1 c1 A2 c2 A3 c3 A4 c4):=((Blk.new w _ _).alloc _).same h1
 have hz:Blk w1 (w.heap.size+1) 30 zR:=(Blk.new' (by simp)).same h1
 have hb:=h0.trans (h1.mono h0.size)
 have Hb:w.heap.size+2<=w1.heap.size:=by have:=h1.size;rw [e2] at this;exact this
 have H1:=mA (mB hW (mB hs (mB hz (mB hb (mB Hb Ha)))))
 clear h1 h0 hs hz hb hW e2 Hb HF Ha
 have hs:=H1.out.2.1
 obtain ⟨-,s1⟩:=cz2 hs
 have sl:=hs.lt
 have hz:=H1.out.2.2.1
 obtain ⟨z0,z1,z2,z3,z4,z5,z6,z7,z8,z9⟩:=cz10 hz
 have zz:=hz.frozen
 have zl:=hz.lt
 have hr:=zAj (a0:=.int .i64 0) (a1:=.int .i64 0) (a2:=.int .i64 0) (a3:=.bool false) (a4:=.slice none 0 0) (a5:=.int .i64 0) (a6:=.slice none 0 0) (a7:=.slice none 0 0) (a8:=.slice none 0 0) (a9:=.slice none 0 0) hz
 obtain ⟨r0,r1,r2,r3,r4,r5,r6,r7,r8,r9⟩:=cz10 hr
 have rz:=hr.frozen
 have rl:=hr.lt
 clear hs
 go_wp2
 refine bodyPost_ret (v:=.tuple #[.agg zR,.slice none 0 0,.int .i64 7]) (by simp [results,Tryd.results13,go_sem,r0,r1,r2,r3,r4,r5,r6,r7,r8,r9]) rfl ?_
 exact ⟨zAp _ _ _,zAf H1.out.2.2.2.1 (by omega)⟩
theorem zLu (lv hv wv gv nv:Value) (r:Scu.Replica) (w:World) (B:Nat) (hr:IsRep w B lv hv wv gv nv r) (hf:Scu.repFault r=0) (hm:r.kept.view≠1048576) (rr:Scu.Replica) (ms:List Scu.Message) (Hh:Scu.want r (r.kept.view+1)=(rr,ms)) :
 Calls Tryd.prog 13 #[.agg #[.int .i64 r.me,.int .i64 r.kept.view,.int .i64 r.kept.normal,.bool r.kept.calm,lv,.int .i64 r.kept.commit,hv,wv,gv,nv]] w fun e w'=>TellN w.heap.size w' rr ms 0 e/\Below w.heap.size w w':=by
 have Hk:(r.kept.view == 1048576)=false:=by simpa using hm
 have Hl:r.kept.view<=1048576:=(Scu.keptFault_ok (Scu.repFault_ok hf).2.2.2.2.2.2.2).2.1
 have H3:=mA (mB (zCe hf) Hh)
 clear hm Hh
 have Hm:=zAu hf
 have HV:=mA hr
 have HF:=mA hf
 obtain ⟨A0,n0,c0,A1,c1,A2,c2,A3,c3,A4,c4,rfl,rfl,rfl,rfl,rfl⟩:=hr.forms
 clear hr hf
 go_enter Tryd.func13,Tryd.ntmps13
 go_wp2_with fail
 have h0:Below w.heap.size w ((w.alloc (.cells (rN r A0 n0 c0 A1 c1 A2 c2 A3 c3 A4 c4) 30)).alloc (.cells zR 30)):=(zAa w _).alloc (by simp) _
 refine (zAz _ _ _ _ _ r _ B (HV.out.below h0) HF.out).mono ?_;rintro en w1 ⟨⟨gw,gr,lu,hu,wu,gu,nu,rfl,hW,Hg⟩,h1⟩
 have e2:((w.alloc (.cells (rN r A0 n0 c0 A1 c1 A2 c2 A3 c3 A4 c4) 30)).alloc (.cells zR 30)).heap.size=w.heap.size+2:=by simp
 rw [e2] at hW Hg
 have hs:Blk w1 w.heap.size 30 (rN r A0 n0 c0 A1 c1 A2 c2 A3 c3 A4 c4):=((Blk.new w _ _).alloc _).same h1
 have hz:Blk w1 (w.heap.size+1) 30 zR:=(Blk.new' (by simp)).same h1
 have hb:=h0.trans (h1.mono h0.size)
 have Hi:w.heap.size+2<=w1.heap.size:=by have:=h1.size;rw [e2] at this;exact this
 have H1:=mA (mB hW (mB hs (mB hz (mB hb (mB Hi Hg)))))
 clear h1 h0 hs hz hb hW e2 Hi HF Hg
 have hs:=H1.out.2.1
 obtain ⟨-,s1⟩:=cz2 hs
 have sl:=hs.lt
 clear hs
 go_wp2_with fail
 refine (zMr w1 (w.heap.size+2) gw gr r (r.kept.view+1) [] H1.out.1.e H1.out.2.2.2.2.1 H3.out.1 (by simp [R47])).mono ?_;rintro en w3 ⟨rfl,Ha,h3⟩
 rw [List.nil_append,H3.out.2] at Ha
 have Hb:Blk w3 (w.heap.size+1) 30 zR:=H1.out.2.2.1.below h3 (by omega)
 have Hj:Below w.heap.size w w3:=H1.out.2.2.2.1.trans (h3.mono (by omega))
 clear h3 s1 sl
 obtain ⟨lu3,Hn,wv3,gv3,nv3,ov3,css3,Ha⟩:=Ha
 obtain ⟨Ao,co,rfl⟩:=Ha.out.form
 obtain ⟨E0,m0,d0,E1,d1,E2,d2,E3,d3,E4,d4,rfl,rfl,rfl,rfl,rfl⟩:=Ha.own.is.forms
 have He:=Ha.wb
 have Hf:=Ha.rb
 obtain ⟨f0,f1⟩:=cz2 He
 have fl:=He.lt
 obtain ⟨k0,k1,k2,k3,k4,k5,k6,k7,k8,k9⟩:=cz10 Hf
 have kz:=Hf.frozen
 have kl:=Hf.lt
 obtain ⟨z0,z1,z2,z3,z4,z5,z6,z7,z8,z9⟩:=cz10 Hb
 have zz:=Hb.frozen
 have zl:=Hb.lt
 have hr:=zAj (a0:=.int .i64 rr.me) (a1:=.int .i64 rr.kept.view) (a2:=.int .i64 rr.kept.normal) (a3:=.bool rr.kept.calm) (a4:=.slice E0 m0 d0) (a5:=.int .i64 rr.kept.commit) (a6:=.slice E1 rr.have_.length d1) (a7:=.slice E2 rr.wants.length d2) (a8:=.slice E3 rr.gives.length d3) (a9:=.slice E4 rr.given.length d4) Hb
 have Hc:=Same.sets10 (Ts:=[9,3,4,25,43,68]) (B:=0) (a0:=.int .i64 rr.me) (a1:=.int .i64 rr.kept.view) (a2:=.int .i64 rr.kept.normal) (a3:=.bool rr.kept.calm) (a4:=.slice E0 m0 d0) (a5:=.int .i64 rr.kept.commit) (a6:=.slice E1 rr.have_.length d1) (a7:=.slice E2 rr.wants.length d2) (a8:=.slice E3 rr.gives.length d3) (a9:=.slice E4 rr.given.length d4) Hb (mE _) (by decide)
 have Hd:=zAd He Hc (by simp)
 obtain ⟨q0,q1⟩:=cz2 Hd
 have hT:=Ha.own.is.same (Hc.mono (by simp) (mC _))
 have hO:=Ha.out.is.same (Ts:=[9,43]) (by simp) (Hc.mono (by simp) (mC _)) (fun _ _ h=>h.same (Ts:=[9,43]) (by simp) (Hc.mono (by simp) (mC _)))
 have hL:=zAf (a0:=.int .i64 rr.me) (a1:=.int .i64 rr.kept.view) (a2:=.int .i64 rr.kept.normal) (a3:=.bool rr.kept.calm) (a4:=.slice E0 m0 d0) (a5:=.int .i64 rr.kept.commit) (a6:=.slice E1 rr.have_.length d1) (a7:=.slice E2 rr.wants.length d2) (a8:=.slice E3 rr.gives.length d3) (a9:=.slice E4 rr.given.length d4) Hj (show w.heap.size<=w.heap.size+1 by omega)
 obtain ⟨r0,r1,r2,r3,r4,r5,r6,r7,r8,r9⟩:=cz10 hr
 have rz:=hr.frozen
 have rl:=hr.lt
 have hA:∀ g,(Value.slice Ao ms.length co).ownBlock=some g->w.heap.size<=g:=fun g hg=>by have:=(Ha.out.row.lt g hg).1;omega
 have HT:=mA (mB hT (mB hO (mB hL hA)))
 clear hr Hc hT hO hL He Hf Ha Hb Hj Hd hA
 go_wp2_with fail
 go_region
 go_wp2
 refine bodyPost_ret (v:=.tuple #[.agg (rN rr E0 m0 d0 E1 d1 E2 d2 E3 d3 E4 d4),.slice Ao ms.length co,.int .i64 0]) (by simp [results,Tryd.results13,go_sem,r0,r1,r2,r3,r4,r5,r6,r7,r8,r9]) rfl ?_
 exact ⟨⟨_,_,_,_,_,_,rfl,HT.out.1.same (Same.drew _),HT.out.2.1.same (Ts:=[9,43]) (by simp) (Same.drew _) (fun _ _ h=>h.same (Ts:=[9]) (by simp) (Same.drew _)),HT.out.2.2.2⟩,HT.out.2.2.1.drew⟩
theorem zLv (lv hv wv gv nv:Value) (r:Scu.Replica) (w:World) (B:Nat) (hr:IsRep w B lv hv wv gv nv r) :
 Calls Tryd.prog 13 #[.agg #[.int .i64 r.me,.int .i64 r.kept.view,.int .i64 r.kept.normal,.bool r.kept.calm,lv,.int .i64 r.kept.commit,hv,wv,gv,nv]] w fun e w'=>TellN w.heap.size w' (Scu.alarm r).1 (Scu.alarm r).2.1 (Scu.alarm r).2.2 e/\Below w.heap.size w w':=by
 by_cases hf:Scu.repFault r=0
 ·by_cases hm:r.kept.view=1048576
  ·have e:Scu.alarm r=(Scu.replica0,[],7):=by unfold Scu.alarm;rw [if_neg (fun h=>h hf),if_pos hm]
   rw [e]
   exact zLt lv hv wv gv nv r w B hr hf hm
  have e:Scu.alarm r=((Scu.want r (r.kept.view+1)).1,(Scu.want r (r.kept.view+1)).2,0):=by unfold Scu.alarm;rw [if_neg (fun h=>h hf),if_neg hm]
  rw [e]
  exact zLu lv hv wv gv nv r w B hr hf hm _ _ rfl
 have e:Scu.alarm r=(Scu.replica0,[],Scu.repFault r):=by unfold Scu.alarm;rw [if_pos hf]
 rw [e]
 exact zLs lv hv wv gv nv r w B hr _ rfl hf
theorem IsStrs.grown_ap {w w':World} {v:Value} {xs:List Scu.Str} {row:Option Nat} (h:IsStrs w 0 v xs) (hg:w.grownBy w' row) (Hb:∀ x,row=some x->v.ownBlock≠some x):IsStrs w' 0 v xs:=by
 obtain ⟨⟨A,c,rfl,hc,hr⟩,h2,h3⟩:=h
 refine ⟨⟨A,c,rfl,hc,?_⟩,h2,h3⟩
 rcases hr with h | ⟨g,o,rfl,Ha,hk,h4⟩
 ·exact .inl h
 have hb:=hg.block g Ha (fun e=>Hb g e.symm rfl)
 refine .inr ⟨g,o,rfl,mF Ha hg.size,?_,fun j u hj=>?_⟩
 ·rw [hb];exact hk
 rw [World.cell?_of_block (w:=w) (w':=w') (a:=⟨g,o+j,none⟩) hb];exact h4 j u hj
theorem Work.push_log {P w4:World} {base gw gr:Nat} {r:Scu.Replica} {lu hv wv gv nv ov v4:Value} {css:List (List Value)} (h:Work P base gw gr r lu hv wv gv nv ov [] css) (Hf:ApG P base gv r.gives lu) (hm:(r.kept.log.length+1)*16<=R47) {e:Scu.Str} (he:e.size<=R47)
 (h4:w4.ownsRow base 9 1 v4 (r.kept.log.length+1) (r.kept.log.map Value.string ++ [.string e])) (hg:P.grownBy w4 lu.ownBlock) (hb:base<=P.heap.size) :
 Work (w4.setCell ⟨gr,4,none⟩ v4) base gw gr { r with kept:={ r.kept with log:=r.kept.log ++ [e] } } v4 hv wv gv nv ov [] css/\Below base P (w4.setCell ⟨gr,4,none⟩ v4):=by
 have Hc:=h.own.own.log.1
 have Ha:Same [3,4,25,30,68,43] 0 P w4:=Same.own Hc hg (mE _) (by decide)
 have He:=zAd h.rb Ha (by simp)
 have Hb:Same [9,3,4,25,68,43] 0 w4 (w4.setCell ⟨gr,4,none⟩ v4):=Same.set_ He (mE _) (by decide) 4 _
 obtain ⟨kss,hk,Hg⟩:=Hf
 have Hh:OwnKs w4 base gv r.gives kss:=⟨hk.len,hk.five,zBb hk.row (Ts:=[25]) (by simp) (Ha.mono (by simp) (mC _)),fun j cs k a b=>by
  obtain ⟨lv,e',hl⟩:=hk.each j cs k a b
  refine ⟨lv,e',hl.grown_ap hg fun x hx=>Hg cs (List.mem_of_getElem? a) lv (by rw [e'];simp) x hx⟩,hk.max⟩
 have Hd:OwnStrs w4 base v4 (r.kept.log ++ [e]):=by
  refine ⟨?_,by simpa using hm,fun s hs=>?_⟩
  ·rw [List.length_append,List.map_append]
   exact h4
  rcases List.mem_append.1 hs with h' | h'
  ·exact h.own.own.log.2.2 s h'
  rw [List.mem_singleton] at h'
  subst h'
  exact he
 refine ⟨⟨zAd (zAd h.wb Ha (by simp)) Hb (by simp),He.set_ 4 v4,⟨⟨Hd.same (Hb.mono (by simp) (mC _)),(h.own.own.have_.same (Ha.mono (by simp) (mC _))).same (Hb.mono (by simp) (mC _)),(h.own.own.wants.same (Ha.mono (by simp) (mC _))).same (Hb.mono (by simp) (mC _)),(h.own.own.given.same (Ha.mono (by simp) (mC _))).same (Hb.mono (by simp) (mC _)),h.own.own.apart⟩,kss,Hh.same (Hb.mono (by simp) (mC _))⟩,?_,h.lw,h.lr⟩,?_⟩
 ·have ho:=h.out
  exact ⟨ho.len,ho.eight,zBb (zBb ho.row (Ts:=[43]) (by simp) (Ha.mono (by simp) (mC _))) (Ts:=[43]) (by simp) (Hb.mono (by simp) (mC _)),fun j cs m _ b=>by simp at b,ho.max⟩
 exact ((mG base P).grown hg hb (fun q hq=>(Hc.lt q hq).1)).setCell (p:=⟨gr,4,none⟩) h.lr v4
theorem zCy (e:Scu.Str):∀ l:List Scu.Str,(∀ x ∈ l,(Scu.decode x).2=0)->Scu.logFault (l ++ [e])=(Scu.decode e).2
 | [],_=>by
   simp only [List.nil_append,Scu.logFault]
   split
   ·rfl
   ·rename_i h;exact (Decidable.not_not.1 h).symm
 | x :: l,h=>by
   simp only [List.cons_append,Scu.logFault]
   rw [if_neg (fun hx=>hx (h x List.mem_cons_self))]
   exact zCy e l fun y hy=>h y (List.mem_cons_of_mem _ hy)
theorem zCl {k:Scu.Kept} (h:Scu.keptFault k=0) (Ha:k.log.length < 60) (e:Scu.Str):Scu.keptFault { k with log:=k.log ++ [e] } = (Scu.decode e).2:=by
 obtain ⟨h1,h2,h3,h4,h5,h6,h7,h8,h9⟩:=Scu.keptFault_ok h
 unfold Scu.keptFault
 simp only [List.length_append,List.length_cons,List.length_nil]
 rw [if_neg (by
  rintro (h | h | h | h | ⟨ha,hb⟩)
  ·omega
  ·omega
  ·omega
  ·omega
  exact hb (h5 ha)),if_neg (by omega),if_neg (by push_cast;omega)]
 exact zCy e k.log h9
theorem zLw (lv hv wv gv nv:Value) (r:Scu.Replica) (e:Scu.Str) (w:World) (B:Nat) (hr:IsRep w B lv hv wv gv nv r) (f:Int) (hf:Scu.repFault r=f) (hn:f≠0) :
 Calls Tryd.prog 9 #[.agg #[.int .i64 r.me,.int .i64 r.kept.view,.int .i64 r.kept.normal,.bool r.kept.calm,lv,.int .i64 r.kept.commit,hv,wv,gv,nv],.string e] w fun en w'=>TellN w.heap.size w' Scu.replica0 [] f en/\Below w.heap.size w w':=by
 have Ha:(f != 0)=true:=by simpa using hn
 have HN:=mA hn
 clear hn
 have HV:=mA hr
 have HF:=mA hf
 obtain ⟨A0,n0,c0,A1,c1,A2,c2,A3,c3,A4,c4,rfl,rfl,rfl,rfl,rfl⟩:=hr.forms
 clear hr hf
 go_enter Tryd.func9,Tryd.ntmps9
 go_wp2_with fail
 have h0:Below w.heap.size w ((w.alloc (.cells (rN r A0 n0 c0 A1 c1 A2 c2 A3 c3 A4 c4) 30)).alloc (.cells zR 30)):=(zAa w _).alloc (by simp) _
 refine (zGg _ _ _ _ _ r _ B (HV.out.below h0) f HF.out HN.out).mono ?_;rintro en w1 ⟨rfl,h1⟩
 have hz:Blk w1 (w.heap.size+1) 30 zR:=(Blk.new' (by simp)).same h1
 have hb:=h0.trans (h1.mono h0.size)
 obtain ⟨z0,z1,z2,z3,z4,z5,z6,z7,z8,z9⟩:=cz10 hz
 have zz:=hz.frozen
 have zl:=hz.lt
 have hr:=zAj (a0:=.int .i64 0) (a1:=.int .i64 0) (a2:=.int .i64 0) (a3:=.bool false) (a4:=.slice none 0 0) (a5:=.int .i64 0) (a6:=.slice none 0 0) (a7:=.slice none 0 0) (a8:=.slice none 0 0) (a9:=.slice none 0 0) hz
 obtain ⟨r0,r1,r2,r3,r4,r5,r6,r7,r8,r9⟩:=cz10 hr
 have rz:=hr.frozen
 have rl:=hr.lt
 clear h1 h0
 go_wp2
 refine bodyPost_ret (v:=.tuple #[.agg zR,.slice none 0 0,.int .i64 f]) (by simp [results,Tryd.results9,go_sem,r0,r1,r2,r3,r4,r5,r6,r7,r8,r9]) rfl ?_
 exact ⟨zAp _ _ _,zAf hb (by omega)⟩
theorem zLx (lv hv wv gv nv:Value) (r:Scu.Replica) (e:Scu.Str) (w:World) (B:Nat) (hr:IsRep w B lv hv wv gv nv r) (hf:Scu.repFault r=0) (hl:Scu.leads r=false) :
 Calls Tryd.prog 9 #[.agg #[.int .i64 r.me,.int .i64 r.kept.view,.int .i64 r.kept.normal,.bool r.kept.calm,lv,.int .i64 r.kept.commit,hv,wv,gv,nv],.string e] w fun en w'=>TellN w.heap.size w' Scu.replica0 [] 14 en/\Below w.heap.size w w':=by
 have HL:=mA hl
 clear hl
 have Hc:=zAu hf
 have HV:=mA hr
 have HF:=mA hf
 obtain ⟨A0,n0,c0,A1,c1,A2,c2,A3,c3,A4,c4,rfl,rfl,rfl,rfl,rfl⟩:=hr.forms
 clear hr hf
 go_enter Tryd.func9,Tryd.ntmps9
 go_wp2_with fail
 have h0:Below w.heap.size w ((w.alloc (.cells (rN r A0 n0 c0 A1 c1 A2 c2 A3 c3 A4 c4) 30)).alloc (.cells zR 30)):=(zAa w _).alloc (by simp) _
 refine (zAz _ _ _ _ _ r _ B (HV.out.below h0) HF.out).mono ?_;rintro en w1 ⟨⟨gw,gr,lu,hu,wu,gu,nu,rfl,hW,Ha⟩,h1⟩
 have e2:((w.alloc (.cells (rN r A0 n0 c0 A1 c1 A2 c2 A3 c3 A4 c4) 30)).alloc (.cells zR 30)).heap.size=w.heap.size+2:=by simp
 rw [e2] at hW Ha
 have hs:Blk w1 w.heap.size 30 (rN r A0 n0 c0 A1 c1 A2 c2 A3 c3 A4 c4):=((Blk.new w _ _).alloc _).same h1
 have hz:Blk w1 (w.heap.size+1) 30 zR:=(Blk.new' (by simp)).same h1
 have hb:=h0.trans (h1.mono h0.size)
 have Hb:w.heap.size+2<=w1.heap.size:=by have:=h1.size;rw [e2] at this;exact this
 have H1:=mA (mB hW (mB hs (mB hz (mB hb (mB Hb Ha)))))
 clear h1 h0 hs hz hb hW e2 Hb HF Ha
 have hs:=H1.out.2.1
 obtain ⟨s0,s1,s2,s3,s4,s5,s6,s7,s8,s9⟩:=cz10 hs
 have sz:=hs.frozen
 have sl:=hs.lt
 clear hs
 go_wp2_with fail
 refine (zEf _ _ _ _ _ r Hc _ false HL.out).mono ?_;rintro en w2 ⟨rfl,h2⟩
 have H2:=mA (show Work w2 (w.heap.size+2) gw gr r lu hu wu gu nu (.slice none 0 0) [] []/\Blk w2 w.heap.size 30 (rN r A0 n0 c0 A1 c1 A2 c2 A3 c3 A4 c4)/\Blk w2 (w.heap.size+1) 30 zR/\Below w.heap.size w w2/\w.heap.size+2<=w2.heap.size/\ApG w2 (w.heap.size+2) gu r.gives lu from
  ⟨H1.out.1.below h2,H1.out.2.1.same h2,H1.out.2.2.1.same h2,H1.out.2.2.2.1.trans (h2.mono H1.out.2.2.2.1.size),mD H1.out.2.2.2.2.1 h2.size,H1.out.2.2.2.2.2.below h2⟩)
 clear h2 s0 s1 s2 s3 s4 s5 s6 s7 s8 s9 sz sl
 have hz:=H2.out.2.2.1
 obtain ⟨z0,z1,z2,z3,z4,z5,z6,z7,z8,z9⟩:=cz10 hz
 have zz:=hz.frozen
 have zl:=hz.lt
 have hr:=zAj (a0:=.int .i64 0) (a1:=.int .i64 0) (a2:=.int .i64 0) (a3:=.bool false) (a4:=.slice none 0 0) (a5:=.int .i64 0) (a6:=.slice none 0 0) (a7:=.slice none 0 0) (a8:=.slice none 0 0) (a9:=.slice none 0 0) hz
 obtain ⟨r0,r1,r2,r3,r4,r5,r6,r7,r8,r9⟩:=cz10 hr
 have rz:=hr.frozen
 have rl:=hr.lt
 go_wp2
 refine bodyPost_ret (v:=.tuple #[.agg zR,.slice none 0 0,.int .i64 14]) (by simp [results,Tryd.results9,go_sem,r0,r1,r2,r3,r4,r5,r6,r7,r8,r9]) rfl ?_
 exact ⟨zAp _ _ _,zAf H2.out.2.2.2.1 (by omega)⟩
theorem zLy (lv hv wv gv nv:Value) (r:Scu.Replica) (e:Scu.Str) (w:World) (B:Nat) (hr:IsRep w B lv hv wv gv nv r) (hf:Scu.repFault r=0) (hl:Scu.leads r=true) (Hb:r.kept.log.length=60) :
 Calls Tryd.prog 9 #[.agg #[.int .i64 r.me,.int .i64 r.kept.view,.int .i64 r.kept.normal,.bool r.kept.calm,lv,.int .i64 r.kept.commit,hv,wv,gv,nv],.string e] w fun en w'=>TellN w.heap.size w' Scu.replica0 [] 7 en/\Below w.heap.size w w':=by
 have HL:=mA hl
 have Hd:=mA Hb
 clear hl Hb
 have He:=zAu hf
 have HV:=mA hr
 have HF:=mA hf
 obtain ⟨A0,n0,c0,A1,c1,A2,c2,A3,c3,A4,c4,rfl,rfl,rfl,rfl,rfl⟩:=hr.forms
 clear hr hf
 go_enter Tryd.func9,Tryd.ntmps9
 go_wp2_with fail
 have h0:Below w.heap.size w ((w.alloc (.cells (rN r A0 n0 c0 A1 c1 A2 c2 A3 c3 A4 c4) 30)).alloc (.cells zR 30)):=(zAa w _).alloc (by simp) _
 refine (zAz _ _ _ _ _ r _ B (HV.out.below h0) HF.out).mono ?_;rintro en w1 ⟨⟨gw,gr,lu,hu,wu,gu,nu,rfl,hW,Ha⟩,h1⟩
 have e2:((w.alloc (.cells (rN r A0 n0 c0 A1 c1 A2 c2 A3 c3 A4 c4) 30)).alloc (.cells zR 30)).heap.size=w.heap.size+2:=by simp
 rw [e2] at hW Ha
 have hs:Blk w1 w.heap.size 30 (rN r A0 n0 c0 A1 c1 A2 c2 A3 c3 A4 c4):=((Blk.new w _ _).alloc _).same h1
 have hz:Blk w1 (w.heap.size+1) 30 zR:=(Blk.new' (by simp)).same h1
 have hb:=h0.trans (h1.mono h0.size)
 have Hc:w.heap.size+2<=w1.heap.size:=by have:=h1.size;rw [e2] at this;exact this
 have H1:=mA (mB hW (mB hs (mB hz (mB hb (mB Hc Ha)))))
 clear h1 h0 hs hz hb hW e2 Hc HF Ha
 have hs:=H1.out.2.1
 obtain ⟨s0,s1,s2,s3,s4,s5,s6,s7,s8,s9⟩:=cz10 hs
 have sz:=hs.frozen
 have sl:=hs.lt
 clear hs
 go_wp2_with fail
 refine (zEf _ _ _ _ _ r He _ true HL.out).mono ?_;rintro en w2 ⟨rfl,h2⟩
 have H2:=mA (show Work w2 (w.heap.size+2) gw gr r lu hu wu gu nu (.slice none 0 0) [] []/\Blk w2 w.heap.size 30 (rN r A0 n0 c0 A1 c1 A2 c2 A3 c3 A4 c4)/\Blk w2 (w.heap.size+1) 30 zR/\Below w.heap.size w w2/\w.heap.size+2<=w2.heap.size/\ApG w2 (w.heap.size+2) gu r.gives lu from
  ⟨H1.out.1.below h2,H1.out.2.1.same h2,H1.out.2.2.1.same h2,H1.out.2.2.2.1.trans (h2.mono H1.out.2.2.2.1.size),mD H1.out.2.2.2.2.1 h2.size,H1.out.2.2.2.2.2.below h2⟩)
 clear h2 s0 s1 s2 s3 s4 s5 s6 s7 s8 s9 sz sl
 have Hf:n0=r.kept.log.length:=by
  obtain ⟨A',c',e,_⟩:=HV.out.log.ex
  cases e
  rfl
 subst Hf
 obtain ⟨-,-,-,-,s4⟩:=cz5 H2.out.2.1
 have sl:=H2.out.2.1.lt
 rw [Hd.out] at s4
 have hz:=H2.out.2.2.1
 obtain ⟨z0,z1,z2,z3,z4,z5,z6,z7,z8,z9⟩:=cz10 hz
 have zz:=hz.frozen
 have zl:=hz.lt
 have hr:=zAj (a0:=.int .i64 0) (a1:=.int .i64 0) (a2:=.int .i64 0) (a3:=.bool false) (a4:=.slice none 0 0) (a5:=.int .i64 0) (a6:=.slice none 0 0) (a7:=.slice none 0 0) (a8:=.slice none 0 0) (a9:=.slice none 0 0) hz
 obtain ⟨r0,r1,r2,r3,r4,r5,r6,r7,r8,r9⟩:=cz10 hr
 have rz:=hr.frozen
 have rl:=hr.lt
 go_wp2
 refine bodyPost_ret (v:=.tuple #[.agg zR,.slice none 0 0,.int .i64 7]) (by simp [results,Tryd.results9,go_sem,r0,r1,r2,r3,r4,r5,r6,r7,r8,r9]) rfl ?_
 exact ⟨zAp _ _ _,zAf H2.out.2.2.2.1 (by omega)⟩
theorem zEg (lv:Value) (k:Scu.Kept) (w:World) (B:Nat) (hv:IsStrs w B lv k.log) (f:Int) (h:Scu.keptFault k=f) :
 Calls Tryd.prog 18 #[.agg #[.int .i64 k.view,.int .i64 k.normal,.bool k.calm,lv,.int .i64 k.commit]] w fun e w'=>e=.returned (.int .i64 f)/\Below w.heap.size w w':=by
 have:=zBo lv k w B hv
 rw [h] at this
 exact this
theorem zFs (g j:Nat):(⟨g,0,none⟩:Addr).add j=⟨g,j,none⟩:=by unfold Addr.add;split <;> simp_all
def PushI (w2:World) (base gw gr:Nat) (r:Scu.Replica) (e:Scu.Str) (hu wu gu nu:Value) (wx:World):Prop :=
 ∃ A9 c9,Work wx base gw gr { r with kept:={ r.kept with log:=r.kept.log ++ [e] } } (.slice A9 (r.kept.log.length+1) c9) hu wu gu nu (.slice none 0 0) [] []/\Below base w2 wx
theorem zLz (lv hv wv gv nv:Value) (r:Scu.Replica) (e:Scu.Str) (Hk:e.size<=R47) (w:World) (B:Nat) (hr:IsRep w B lv hv wv gv nv r) (hf:Scu.repFault r=0) (hl:Scu.leads r=true) (Hl:r.kept.log.length < 60) (f:Int) (hd:(Scu.decode e).2=f) (hn:f≠0) :
 Calls Tryd.prog 9 #[.agg #[.int .i64 r.me,.int .i64 r.kept.view,.int .i64 r.kept.normal,.bool r.kept.calm,lv,.int .i64 r.kept.commit,hv,wv,gv,nv],.string e] w fun en w'=>TellN w.heap.size w' Scu.replica0 [] f en/\Below w.heap.size w w':=by
 have HL:=mA hl
 have Hs:=mA Hk
 have Hm:=(Scu.repFault_ok hf).2.2.2.2.2.2.2
 have Ht:=mA ((zCl Hm Hl e).trans hd)
 have Hz:(f != 0)=true:=by simpa using hn
 clear hl Hk Hm hd hn
 have Hu:=zAu hf
 have HV:=mA hr
 have HF:=mA hf
 obtain ⟨A0,n0,c0,A1,c1,A2,c2,A3,c3,A4,c4,rfl,rfl,rfl,rfl,rfl⟩:=hr.forms
 clear hr hf
 go_enter Tryd.func9,Tryd.ntmps9
 go_wp2_with fail
 have h0:Below w.heap.size w ((w.alloc (.cells (rN r A0 n0 c0 A1 c1 A2 c2 A3 c3 A4 c4) 30)).alloc (.cells zR 30)):=(zAa w _).alloc (by simp) _
 refine (zAz _ _ _ _ _ r _ B (HV.out.below h0) HF.out).mono ?_;rintro en w1 ⟨⟨gw,gr,lu,hu,wu,gu,nu,rfl,hW,Hg⟩,h1⟩
 have e2:((w.alloc (.cells (rN r A0 n0 c0 A1 c1 A2 c2 A3 c3 A4 c4) 30)).alloc (.cells zR 30)).heap.size=w.heap.size+2:=by simp
 rw [e2] at hW Hg
 have hs:Blk w1 w.heap.size 30 (rN r A0 n0 c0 A1 c1 A2 c2 A3 c3 A4 c4):=((Blk.new w _ _).alloc _).same h1
 have hz:Blk w1 (w.heap.size+1) 30 zR:=(Blk.new' (by simp)).same h1
 have hb:=h0.trans (h1.mono h0.size)
 have Hn:w.heap.size+2<=w1.heap.size:=by have:=h1.size;rw [e2] at this;exact this
 have H1:=mA (mB hW (mB hs (mB hz (mB hb (mB Hn Hg)))))
 clear h1 h0 hs hz hb hW e2 Hn HF Hg
 have hs:=H1.out.2.1
 obtain ⟨s0,s1,s2,s3,s4,s5,s6,s7,s8,s9⟩:=cz10 hs
 have sz:=hs.frozen
 have sl:=hs.lt
 clear hs
 go_wp2_with fail
 refine (zEf _ _ _ _ _ r Hu _ true HL.out).mono ?_;rintro en w2 ⟨rfl,h2⟩
 have H2:=mA (show Work w2 (w.heap.size+2) gw gr r lu hu wu gu nu (.slice none 0 0) [] []/\Blk w2 w.heap.size 30 (rN r A0 n0 c0 A1 c1 A2 c2 A3 c3 A4 c4)/\Blk w2 (w.heap.size+1) 30 zR/\Below w.heap.size w w2/\w.heap.size+2<=w2.heap.size/\ApG w2 (w.heap.size+2) gu r.gives lu from
  ⟨H1.out.1.below h2,H1.out.2.1.same h2,H1.out.2.2.1.same h2,H1.out.2.2.2.1.trans (h2.mono H1.out.2.2.2.1.size),mD H1.out.2.2.2.2.1 h2.size,H1.out.2.2.2.2.2.below h2⟩)
 clear h2 s0 s1 s2 s3 s4 s5 s6 s7 s8 s9 sz sl
 have Hv:n0=r.kept.log.length:=by
  obtain ⟨A',c',e,_⟩:=HV.out.log.ex
  cases e
  rfl
 subst Hv
 obtain ⟨-,-,-,-,s4⟩:=cz5 H2.out.2.1
 have sl:=H2.out.2.1.lt
 have Hw:=mA Hl
 have Ha:=H2.out.1
 obtain ⟨A5,c5,Hx,_,_⟩:=Ha.own.is.log.ex
 subst Hx
 have d0:=cz1 Ha.wb
 obtain ⟨-,-,-,-,d4⟩:=cz5 Ha.rb
 have dl:=Ha.wb.lt
 have dm:=Ha.rb.lt
 have Hh:=mA Ha.own.own.log.1
 have Ho:¬ (r.kept.log.length:Int)=60:=by omega
 have Hi:((r.kept.log.length:Int) == 60)=false:=by simpa using Ho
 clear Ha Ho
 go_upto_region 8 with fail
 have Ka:gw≠gr:=zAv H2.out.1.wb H2.out.1.rb (by decide)
 go_cut [8] (fun e8 wx=>e8=.int .i64 0/\PushI w2 (w.heap.size+2) gw gr r e hu wu gu nu wx)
 case first =>
  go_region_law (first
  | (refine zBw _ rfl (.tmp 40) (.tmp 42) 23 rfl zFa (w.heap.size+2) (.slice A5 r.kept.log.length c5) r.kept.log.length (r.kept.log.map Value.string) rfl ?_ (.slice (some ⟨w2.heap.size,0,none⟩) 1 1) 1 [.string e] rfl ⟨rfl,.inr ⟨_,_,rfl,?_⟩⟩ ?_ ?_ ?_ ?_ ?_
     ·exact (zAi Hh.out (zAa w2 _).drew)
     ·intro j v hj
      have Kb:j < 1:=by (rcases Nat.lt_or_ge j 1 with h | h;exact h;rw [List.getElem?_eq_none h] at hj;cases hj)
      rw [zFs]
      refine (((Blk.new w2 9 #[.string e]).drew).cell j).trans ?_
      simpa using hj
     ·(intro v hv;rw [List.mem_singleton] at hv;subst hv;rfl)
     ·(unfold maxLen;omega)
     ·omega
     ·(have:=H2.out.2.2.2.2.1;simp;omega)
     intro v4 x4 h4 Hf Hy
     have hP:=H2.out.1.below (zAa w2 (.cells #[.string e] 9)).drew
     have Hj:=hP.push_log (H2.out.2.2.2.2.2.below (zAa w2 (.cells #[.string e] 9)).drew) (by unfold R47;omega) Hs.out h4 Hf (by have:=H2.out.2.2.2.2.1;simp;omega)
     have Hc:=zAd hP.rb (Ts:=[30]) (Same.own hP.own.own.log.1 Hf (mE _) (by decide)) (by simp)
     have Hd:=zAd hP.wb (Ts:=[68]) (Same.own hP.own.own.log.1 Hf (mE _) (by decide)) (by simp)
     obtain ⟨-,-,-,-,g4⟩:=cz5 Hc
     have g0:=cz1 Hd
     have gz:=Hc.frozen
     have gl:=Hc.lt
     have gk:=Hd.lt
     obtain ⟨A9,c9,rfl,_,_,_,_⟩:=zAk h4
     have Hp:=mA (mB Hj.1 (((zAa w2 (.cells #[.string e] 9)).drew.mono H2.out.2.2.2.2.1).trans Hj.2))
     clear hP Hj h4 Hf Hc Hd Hy))
  all_goals
   obtain ⟨W5,Hq⟩:=mJ (x4.setCell ⟨gr,4,none⟩ (.slice A9 (r.kept.log.length+1) c9))
   have Hb:=Hp
   rw [<- Hq] at Hb ⊢
   clear Hp Hq g0 g4 gz gl gk d0 d4 dl dm
   go_wp2_with fail
   go_meet
   exact ⟨rfl,A9,c9,Hb.out⟩
 case rest =>
  obtain ⟨rfl,A9,c9,hN⟩:=hcut
  have Hb:=mA hN
  clear hN d0 d4 dl dm
  have He:=Hb.out.1.rb
  have d0:=cz1 Hb.out.1.wb
  obtain ⟨-,q1,q2,q3,q4,q5⟩:=cz6 He
  have dl:=Hb.out.1.wb.lt
  have dm:=He.lt
  clear He
  go_wp2_with fail
  have H:=zEg (.slice A9 (r.kept.log.length+1) c9) ⟨r.kept.view,r.kept.normal,r.kept.calm,r.kept.log ++ [e],r.kept.commit⟩ wc 0 Hb.out.1.own.is.log f Ht.out
  refine H.mono ?_
  clear H
  rintro en w6 ⟨rfl,h6⟩
  have Hr:=mA (mB (Hb.out.1.below h6) (Hb.out.2.trans (h6.mono (mD H2.out.2.2.2.2.1 Hb.out.2.size))))
  clear h6 d0 q1 q2 q3 q4 q5 dl dm Hb
  have hz:=H2.out.2.2.1.below (Hr.out.2) (by omega)
  obtain ⟨z0,z1,z2,z3,z4,z5,z6,z7,z8,z9⟩:=cz10 hz
  have zz:=hz.frozen
  have zl:=hz.lt
  have hr:=zAj (a0:=.int .i64 0) (a1:=.int .i64 0) (a2:=.int .i64 0) (a3:=.bool false) (a4:=.slice none 0 0) (a5:=.int .i64 0) (a6:=.slice none 0 0) (a7:=.slice none 0 0) (a8:=.slice none 0 0) (a9:=.slice none 0 0) hz
  obtain ⟨r0,r1,r2,r3,r4,r5,r6,r7,r8,r9⟩:=cz10 hr
  have rz:=hr.frozen
  have rl:=hr.lt
  clear Hi H1
  go_wp2
  refine bodyPost_ret (v:=.tuple #[.agg zR,.slice none 0 0,.int .i64 f]) (by simp [results,Tryd.results9,go_sem,r0,r1,r2,r3,r4,r5,r6,r7,r8,r9]) rfl ?_
  exact ⟨zAp _ _ _,zAf (H2.out.2.2.2.1.trans (Hr.out.2.mono (by omega))) (by omega)⟩
theorem zMa (lv hv wv gv nv:Value) (r:Scu.Replica) (e:Scu.Str) (Hq:e.size<=R47) (w:World) (B:Nat) (hr:IsRep w B lv hv wv gv nv r) (hf:Scu.repFault r=0) (hl:Scu.leads r=true) (Hr:r.kept.log.length < 60) (hd:(Scu.decode e).2=0) (rr:Scu.Replica) (ms:List Scu.Message) (Hs : { r with kept:={ r.kept with log:=r.kept.log ++ [e] } } = rr) (Ht:Scu.leadOn rr=ms) :
 Calls Tryd.prog 9 #[.agg #[.int .i64 r.me,.int .i64 r.kept.view,.int .i64 r.kept.normal,.bool r.kept.calm,lv,.int .i64 r.kept.commit,hv,wv,gv,nv],.string e] w fun en w'=>TellN w.heap.size w' rr ms 0 en/\Below w.heap.size w w':=by
 have HL:=mA hl
 have Kb:=mA Hq
 have Hu:=(Scu.repFault_ok hf).2.2.2.2.2.2.2
 have Kc:=mA ((zCl Hu Hr e).trans hd)
 have Hv:=mA (mB Hs Ht)
 clear hl Hq Hu hd Hs Ht
 have Kd:=zAu hf
 have HV:=mA hr
 have HF:=mA hf
 obtain ⟨A0,n0,c0,A1,c1,A2,c2,A3,c3,A4,c4,rfl,rfl,rfl,rfl,rfl⟩:=hr.forms
 clear hr hf
 go_enter Tryd.func9,Tryd.ntmps9
 go_wp2_with fail
 have h0:Below w.heap.size w ((w.alloc (.cells (rN r A0 n0 c0 A1 c1 A2 c2 A3 c3 A4 c4) 30)).alloc (.cells zR 30)):=(zAa w _).alloc (by simp) _
 refine (zAz _ _ _ _ _ r _ B (HV.out.below h0) HF.out).mono ?_;rintro en w1 ⟨⟨gw,gr,lu,hu,wu,gu,nu,rfl,hW,Hn⟩,h1⟩
 have e2:((w.alloc (.cells (rN r A0 n0 c0 A1 c1 A2 c2 A3 c3 A4 c4) 30)).alloc (.cells zR 30)).heap.size=w.heap.size+2:=by simp
 rw [e2] at hW Hn
 have hs:Blk w1 w.heap.size 30 (rN r A0 n0 c0 A1 c1 A2 c2 A3 c3 A4 c4):=((Blk.new w _ _).alloc _).same h1
 have hz:Blk w1 (w.heap.size+1) 30 zR:=(Blk.new' (by simp)).same h1
 have hb:=h0.trans (h1.mono h0.size)
 have Hw:w.heap.size+2<=w1.heap.size:=by have:=h1.size;rw [e2] at this;exact this
 have H1:=mA (mB hW (mB hs (mB hz (mB hb (mB Hw Hn)))))
 clear h1 h0 hs hz hb hW e2 Hw HF Hn
 have hs:=H1.out.2.1
 obtain ⟨s0,s1,s2,s3,s4,s5,s6,s7,s8,s9⟩:=cz10 hs
 have sz:=hs.frozen
 have sl:=hs.lt
 clear hs
 go_wp2_with fail
 refine (zEf _ _ _ _ _ r Kd _ true HL.out).mono ?_;rintro en w2 ⟨rfl,h2⟩
 have H2:=mA (show Work w2 (w.heap.size+2) gw gr r lu hu wu gu nu (.slice none 0 0) [] []/\Blk w2 w.heap.size 30 (rN r A0 n0 c0 A1 c1 A2 c2 A3 c3 A4 c4)/\Blk w2 (w.heap.size+1) 30 zR/\Below w.heap.size w w2/\w.heap.size+2<=w2.heap.size/\ApG w2 (w.heap.size+2) gu r.gives lu from
  ⟨H1.out.1.below h2,H1.out.2.1.same h2,H1.out.2.2.1.same h2,H1.out.2.2.2.1.trans (h2.mono H1.out.2.2.2.1.size),mD H1.out.2.2.2.2.1 h2.size,H1.out.2.2.2.2.2.below h2⟩)
 clear h2 s0 s1 s2 s3 s4 s5 s6 s7 s8 s9 sz sl
 have Ke:n0=r.kept.log.length:=by
  obtain ⟨A',c',e,_⟩:=HV.out.log.ex
  cases e
  rfl
 subst Ke
 obtain ⟨-,-,-,-,s4⟩:=cz5 H2.out.2.1
 have sl:=H2.out.2.1.lt
 have Kf:=mA Hr
 have Ha:=H2.out.1
 obtain ⟨A5,c5,Kg,_,_⟩:=Ha.own.is.log.ex
 subst Kg
 have d0:=cz1 Ha.wb
 obtain ⟨-,-,-,-,d4⟩:=cz5 Ha.rb
 have dl:=Ha.wb.lt
 have dm:=Ha.rb.lt
 have Ho:=mA Ha.own.own.log.1
 have Hx:¬ (r.kept.log.length:Int)=60:=by omega
 have Kh:((r.kept.log.length:Int) == 60)=false:=by simpa using Hx
 clear Ha Hx
 go_upto_region 8 with fail
 have Kj:gw≠gr:=zAv H2.out.1.wb H2.out.1.rb (by decide)
 go_cut [8] (fun e8 wx=>e8=.int .i64 0/\PushI w2 (w.heap.size+2) gw gr r e hu wu gu nu wx)
 case first =>
  go_region_law (first
  | (refine zBw _ rfl (.tmp 40) (.tmp 42) 23 rfl zFa (w.heap.size+2) (.slice A5 r.kept.log.length c5) r.kept.log.length (r.kept.log.map Value.string) rfl ?_ (.slice (some ⟨w2.heap.size,0,none⟩) 1 1) 1 [.string e] rfl ⟨rfl,.inr ⟨_,_,rfl,?_⟩⟩ ?_ ?_ ?_ ?_ ?_
     ·exact (zAi Ho.out (zAa w2 _).drew)
     ·intro j v hj
      have Kk:j < 1:=by (rcases Nat.lt_or_ge j 1 with h | h;exact h;rw [List.getElem?_eq_none h] at hj;cases hj)
      rw [zFs]
      refine (((Blk.new w2 9 #[.string e]).drew).cell j).trans ?_
      simpa using hj
     ·(intro v hv;rw [List.mem_singleton] at hv;subst hv;rfl)
     ·(unfold maxLen;omega)
     ·omega
     ·(have:=H2.out.2.2.2.2.1;simp;omega)
     intro v4 x4 h4 Hj Ki
     have hP:=H2.out.1.below (zAa w2 (.cells #[.string e] 9)).drew
     have Hp:=hP.push_log (H2.out.2.2.2.2.2.below (zAa w2 (.cells #[.string e] 9)).drew) (by unfold R47;omega) Kb.out h4 Hj (by have:=H2.out.2.2.2.2.1;simp;omega)
     have Hd:=zAd hP.rb (Ts:=[30]) (Same.own hP.own.own.log.1 Hj (mE _) (by decide)) (by simp)
     have He:=zAd hP.wb (Ts:=[68]) (Same.own hP.own.own.log.1 Hj (mE _) (by decide)) (by simp)
     obtain ⟨-,-,-,-,g4⟩:=cz5 Hd
     have g0:=cz1 He
     have gz:=Hd.frozen
     have gl:=Hd.lt
     have gk:=He.lt
     obtain ⟨A9,c9,rfl,_,_,_,_⟩:=zAk h4
     have Hy:=mA (mB Hp.1 (((zAa w2 (.cells #[.string e] 9)).drew.mono H2.out.2.2.2.2.1).trans Hp.2))
     clear hP Hp h4 Hj Hd He Ki))
  all_goals
   obtain ⟨W5,Hz⟩:=mJ (x4.setCell ⟨gr,4,none⟩ (.slice A9 (r.kept.log.length+1) c9))
   have Hb:=Hy
   rw [<- Hz] at Hb ⊢
   clear Hy Hz g0 g4 gz gl gk d0 d4 dl dm
   go_wp2_with fail
   go_meet
   exact ⟨rfl,A9,c9,Hb.out⟩
 case rest =>
  obtain ⟨rfl,A9,c9,hN⟩:=hcut
  have Hb:=mA hN
  clear hN d0 d4 dl dm
  have Hf:=Hb.out.1.rb
  have d0:=cz1 Hb.out.1.wb
  obtain ⟨-,q1,q2,q3,q4,q5⟩:=cz6 Hf
  have dl:=Hb.out.1.wb.lt
  have dm:=Hf.lt
  clear Hf
  go_wp2_with fail
  have H:=zEg (.slice A9 (r.kept.log.length+1) c9) ⟨r.kept.view,r.kept.normal,r.kept.calm,r.kept.log ++ [e],r.kept.commit⟩ wc 0 Hb.out.1.own.is.log 0 Kc.out
  refine H.mono ?_
  clear H
  rintro en w6 ⟨rfl,h6⟩
  have Hk:=mA (mB (Hb.out.1.below h6) (Hb.out.2.trans (h6.mono (mD H2.out.2.2.2.2.1 Hb.out.2.size))))
  clear h6 d0 q1 q2 q3 q4 q5 dl dm Hb
  go_wp2_with fail
  refine (zEd w6 (w.heap.size+2) gw gr rr [] (by rw [<- Hv.out.1];exact Hk.out.1.e) (mD H2.out.2.2.2.2.1 Hk.out.2.size) (by simp [R47])).mono ?_;rintro en w3 ⟨rfl,Hc,h3⟩
  rw [List.nil_append,Hv.out.2] at Hc
  have Hg:Blk w3 (w.heap.size+1) 30 zR:=H2.out.2.2.1.below (Hk.out.2.trans h3) (by omega)
  have Ka:Below w.heap.size w w3:=H2.out.2.2.2.1.trans ((Hk.out.2.trans h3).mono (by omega))
  clear h3
  obtain ⟨lu3,Kl,wv3,gv3,nv3,ov3,css3,Hc⟩:=Hc
  obtain ⟨Ao,co,rfl⟩:=Hc.out.form
  obtain ⟨E0,m0,d0,E1,d1,E2,d2,E3,d3,E4,d4,rfl,rfl,rfl,rfl,rfl⟩:=Hc.own.is.forms
  have Hl:=Hc.wb
  have Hm:=Hc.rb
  obtain ⟨f0,f1⟩:=cz2 Hl
  have fl:=Hl.lt
  obtain ⟨k0,k1,k2,k3,k4,k5,k6,k7,k8,k9⟩:=cz10 Hm
  have kz:=Hm.frozen
  have kl:=Hm.lt
  obtain ⟨z0,z1,z2,z3,z4,z5,z6,z7,z8,z9⟩:=cz10 Hg
  have zz:=Hg.frozen
  have zl:=Hg.lt
  have hr:=zAj (a0:=.int .i64 rr.me) (a1:=.int .i64 rr.kept.view) (a2:=.int .i64 rr.kept.normal) (a3:=.bool rr.kept.calm) (a4:=.slice E0 m0 d0) (a5:=.int .i64 rr.kept.commit) (a6:=.slice E1 rr.have_.length d1) (a7:=.slice E2 rr.wants.length d2) (a8:=.slice E3 rr.gives.length d3) (a9:=.slice E4 rr.given.length d4) Hg
  have Hh:=Same.sets10 (Ts:=[9,3,4,25,43,68]) (B:=0) (a0:=.int .i64 rr.me) (a1:=.int .i64 rr.kept.view) (a2:=.int .i64 rr.kept.normal) (a3:=.bool rr.kept.calm) (a4:=.slice E0 m0 d0) (a5:=.int .i64 rr.kept.commit) (a6:=.slice E1 rr.have_.length d1) (a7:=.slice E2 rr.wants.length d2) (a8:=.slice E3 rr.gives.length d3) (a9:=.slice E4 rr.given.length d4) Hg (mE _) (by decide)
  have Hi:=zAd Hl Hh (by simp)
  obtain ⟨q0,q1⟩:=cz2 Hi
  have hT:=Hc.own.is.same (Hh.mono (by simp) (mC _))
  have hO:=Hc.out.is.same (Ts:=[9,43]) (by simp) (Hh.mono (by simp) (mC _)) (fun _ _ h=>h.same (Ts:=[9,43]) (by simp) (Hh.mono (by simp) (mC _)))
  have hL:=zAf (a0:=.int .i64 rr.me) (a1:=.int .i64 rr.kept.view) (a2:=.int .i64 rr.kept.normal) (a3:=.bool rr.kept.calm) (a4:=.slice E0 m0 d0) (a5:=.int .i64 rr.kept.commit) (a6:=.slice E1 rr.have_.length d1) (a7:=.slice E2 rr.wants.length d2) (a8:=.slice E3 rr.gives.length d3) (a9:=.slice E4 rr.given.length d4) Ka (show w.heap.size<=w.heap.size+1 by omega)
  obtain ⟨r0,r1,r2,r3,r4,r5,r6,r7,r8,r9⟩:=cz10 hr
  have rz:=hr.frozen
  have rl:=hr.lt
  have hA:∀ g,(Value.slice Ao ms.length co).ownBlock=some g->w.heap.size<=g:=fun g hg=>by have:=(Hc.out.row.lt g hg).1;omega
  have HT:=mA (mB hT (mB hO (mB hL hA)))
  clear hr Hh hT hO hL Hl Hm Hc Hg Ka Hi hA
  go_wp2_with fail
  go_region
  go_wp2
  refine bodyPost_ret (v:=.tuple #[.agg (rN rr E0 m0 d0 E1 d1 E2 d2 E3 d3 E4 d4),.slice Ao ms.length co,.int .i64 0]) (by simp [results,Tryd.results9,go_sem,r0,r1,r2,r3,r4,r5,r6,r7,r8,r9]) rfl ?_
  exact ⟨⟨_,_,_,_,_,_,rfl,HT.out.1.same (Same.drew _),HT.out.2.1.same (Ts:=[9,43]) (by simp) (Same.drew _) (fun _ _ h=>h.same (Ts:=[9]) (by simp) (Same.drew _)),HT.out.2.2.2⟩,HT.out.2.2.1.drew⟩
theorem zNb (lv hv wv gv nv:Value) (r:Scu.Replica) (e:Scu.Str) (Hc:e.size<=R47) (w:World) (B:Nat) (hr:IsRep w B lv hv wv gv nv r) :
 Calls Tryd.prog 9 #[.agg #[.int .i64 r.me,.int .i64 r.kept.view,.int .i64 r.kept.normal,.bool r.kept.calm,lv,.int .i64 r.kept.commit,hv,wv,gv,nv],.string e] w fun en w'=>TellN w.heap.size w' (Scu.take r e).1 (Scu.take r e).2.1 (Scu.take r e).2.2 en/\Below w.heap.size w w':=by
 by_cases hf:Scu.repFault r=0
 ·by_cases hl:Scu.leads r=false
  ·have q:Scu.take r e=(Scu.replica0,[],14):=by unfold Scu.take;rw [if_neg (fun h=>h hf),if_pos hl]
   rw [q]
   exact zLx lv hv wv gv nv r e w B hr hf hl
  have Hb:Scu.leads r=true:=by simpa using hl
  by_cases Ha:r.kept.log.length=60
  ·have q:Scu.take r e=(Scu.replica0,[],7):=by unfold Scu.take;rw [if_neg (fun h=>h hf),if_neg hl,if_pos Ha]
   rw [q]
   exact zLy lv hv wv gv nv r e w B hr hf Hb Ha
  have hm:r.kept.log.length<=60:=(Scu.keptFault_ok (Scu.repFault_ok hf).2.2.2.2.2.2.2).2.2.2.2.2.1
  by_cases hd:(Scu.decode e).2=0
  ·have q:Scu.take r e=({ r with kept:={ r.kept with log:=r.kept.log ++ [e] } },Scu.leadOn { r with kept:={ r.kept with log:=r.kept.log ++ [e] } },0):=by unfold Scu.take;rw [if_neg (fun h=>h hf),if_neg hl,if_neg Ha,if_neg (fun h=>h hd)]
   rw [q]
   exact zMa lv hv wv gv nv r e Hc w B hr hf Hb (by omega) hd _ _ rfl rfl
  have q:Scu.take r e=(Scu.replica0,[],(Scu.decode e).2):=by unfold Scu.take;rw [if_neg (fun h=>h hf),if_neg hl,if_neg Ha,if_pos hd]
  rw [q]
  exact zLz lv hv wv gv nv r e Hc w B hr hf Hb (by omega) _ rfl hd
 have q:Scu.take r e=(Scu.replica0,[],Scu.repFault r):=by unfold Scu.take;rw [if_pos hf]
 rw [q]
 exact zLw lv hv wv gv nv r e w B hr _ rfl hf
def repV (r:Scu.Replica) (lu hv wv gv nv:Value):List Value:=[.int .i64 r.me,.int .i64 r.kept.view,.int .i64 r.kept.normal,.bool r.kept.calm,lu,.int .i64 r.kept.commit,hv,wv,gv,nv]
def RepE (w:World) (B:Nat) (cs:List Value) (r:Scu.Replica):Prop:=∃ lu hv wv gv nv,cs=repV r lu hv wv gv nv/\IsRep w B lu hv wv gv nv r
def RowE (w:World) (B:Nat) (cs:List Value) (l:List Scu.Str):Prop:=∃ u,cs=[u]/\IsStrs w B u l
section
variable {w w':World} {B:Nat} {Ts:List TypeId} {cs:List Value}
theorem RepE.same {r:Scu.Replica} (h:RepE w B cs r) (hT:∀ t ∈ [9,3,4,25],t ∈ Ts) (hs:Same Ts B w w'):RepE w' B cs r:=by
 obtain ⟨lu,hv,wv,gv,nv,e,h⟩:=h
 exact ⟨lu,hv,wv,gv,nv,e,h.same (hs.mono hT (mC _))⟩
theorem RowE.same {l:List Scu.Str} (h:RowE w B cs l) (hT:9 ∈ Ts) (hs:Same Ts B w w'):RowE w' B cs l:=by
 obtain ⟨u,e,h⟩:=h
 exact ⟨u,e,h.same hT hs⟩
theorem RepE.len {r:Scu.Replica} (h:RepE w B cs r):cs.length=10:=by
 obtain ⟨lu,hv,wv,gv,nv,rfl,h⟩:=h
 rfl
theorem MsgE.len {m:Scu.Message} (h:MsgE w B cs m):cs.length=8:=by
 obtain ⟨lu,rfl,h⟩:=h
 rfl
theorem RowE.len {l:List Scu.Str} (h:RowE w B cs l):cs.length=1:=by
 obtain ⟨u,rfl,h⟩:=h
 rfl
end
section
variable {α:Type} {t:TypeId} {size bytes:Nat} {El:World->Nat->List Value->α->Prop} {w w':World} {base base':Nat} {v:Value} {xs:List α} {css:List (List Value)} {Ts:List TypeId}
end
section
variable {w w' P w4:World} {base gx:Nat} {x:Scu.Net} {rv sv fv cv tv v4:Value} {Ts:List TypeId} {B:Nat}
end
open Go.RowKit
end Go.Proofs.YtjnjhmkgfjikfaaDoor
