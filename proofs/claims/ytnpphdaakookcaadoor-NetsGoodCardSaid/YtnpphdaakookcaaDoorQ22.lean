/- Part 22: words and walks under the laws of the whole. -/
import Derived.Test.YtnpphdaakookcaaDoorQ12
import Derived.Test.YtnpphdaakookcaaDoorQ21
set_option linter.unusedVariables false
set_option linter.unusedSimpArgs false
set_option maxHeartbeats 4000000
set_option maxRecDepth 100000
namespace Go.Proofs.YtnpphdaakookcaaDoor
open Go.RowKit
theorem zFp:Scu.keptFault Scu.keptNew=0:=by
 unfold Scu.keptFault Scu.keptNew Scu.kept0
 simp [Scu.logFault]
theorem zLx:(Scu.keptBytes Scu.keptNew 0).size<=4000:=by
 unfold Scu.keptBytes
 rw [ByteArray.size_append,Scu.sealS_size,<- Scu.encT_all]
 have:=Scu.encT_size zFp 0 Scu.keptNew.log.length
 omega
theorem encNew:Scu.stageEncode Scu.keptNew 0=(Scu.keptBytes Scu.keptNew 0,0):=zPs (by simp [zFp]) (by omega)
theorem zZa {w:World} {base g:Nat} {a b:Scu.Str} (h:Blk w g 9 #[.string a,.string b]) (hb:base<=g) (h1:a.size<=R47) (h2:b.size<=R47):OwnStrs w base (.slice (some ⟨g,0,none⟩) 2 2) [a,b] :=
 ⟨zYj (xs:=[.string a,.string b]) h hb rfl (by unfold maxLen;omega),by simp [R47],fun s hs=>by
  simp only [List.mem_cons,List.not_mem_nil,or_false] at hs
  rcases hs with rfl | rfl
  ·exact h1
  exact h2⟩
theorem zRe (w:World) :
 Calls Tryd.prog 28 #[] w fun e w'=>(∃ u,e=.returned u/\OwnStrs w' w.heap.size u Scu.stageNew)/\Below w.heap.size w w':=by
 have K:=mA (fun W=>zGx (.slice none 0 0) Scu.keptNew 0 W 0 IsStrs.nil_)
 go_enter Tryd.func28,Tryd.ntmps28
 go_wp2_with fail
 refine (K.out _).mono ?_;rintro e w1 ⟨rfl,h1⟩
 go_wp2
 go_ret
 refine ⟨⟨_,rfl,?_⟩,h1.alloc h1.size _⟩
 rw [encNew]
 exact zZa (Blk.new w1 _ _) h1.size (mD zLx (by simp [R47])) (by simp [R47,Scu.str0])
def LoadRet (w:World) (base:Nat) (q:Scu.Kept × Int × Int × Int) (e:Ending):Prop :=
 ∃ lv,e=.returned (.tuple #[.agg #[.int .i64 q.1.view,.int .i64 q.1.normal,.bool q.1.calm,lv,.int .i64 q.1.commit],.int .i64 q.2.1,.int .i64 q.2.2.1,.int .i64 q.2.2.2])/\OwnStrs w base lv q.1.log
theorem zNm (w:World) (base:Nat) (e:Int):LoadRet w base (Scu.kept0,0,0,e) (.returned (.tuple #[.agg #[.int .i64 0,.int .i64 0,.bool false,.slice none 0 0,.int .i64 0],.int .i64 0,.int .i64 0,.int .i64 e])) :=
 ⟨_,rfl,OwnStrs.nil_⟩
theorem zHb (s:ByteArray) (w:World) (k:Scu.Kept) (g e:Int) (h:Scu.stageDecode s=(k,g,e)) :
 Calls Tryd.prog 33 #[.string s] w fun en w'=>DecRet w' w.heap.size (k,g,e) en/\Below w.heap.size w w':=by
 have:=zLw s w
 rw [h] at this
 exact this
theorem zJp (v:Value) (l:List Scu.Str) (w:World) (B:Nat) (hv:IsStrs w B v l) :
 Calls Tryd.prog 15 #[v] w fun e w'=>LoadRet w' w.heap.size (Scu.load l) e/\Below w.heap.size w w':=by
 obtain ⟨⟨A,c,rfl,_,hr⟩,hl,he⟩:=hv
 unfold R47 at hl
 by_cases h2:l.length=2
 ·obtain ⟨a,b,rfl⟩:∃ a b,l=[a,b]:=by match l,h2 with | [a,b],_=>exact ⟨a,b,rfl⟩
  obtain ⟨g,o,rfl,hg,Ho⟩:=zEf hr (k:=0) (by simp)
  obtain ⟨g',o',e0,_,Hi⟩:=zEf hr (k:=1) (by simp)
  cases e0
  simp only [Nat.add_zero,List.getElem_cons_zero,List.getElem_cons_succ] at Ho Hi
  generalize da:Scu.stageDecode a=qa
  generalize db:Scu.stageDecode b=qb
  obtain ⟨ka,ga,ea⟩:=qa
  obtain ⟨kb,gb,eb⟩:=qb
  have Hb:=mA (Scu.load_two da db)
  have HA:=mA (fun W=>zHb a W ka ga ea da)
  have HB:=mA (fun W=>zHb b W kb gb eb db)
  clear da db h2 hl he hr
  go_enter Tryd.func15,Tryd.ntmps15
  go_wp2_with fail
  refine (HA.out _).mono ?_;rintro e w1 ⟨⟨lv1,rfl,Hj⟩,h1⟩
  obtain ⟨A1,n1,c1,rfl⟩:=Hj.form
  have Hk:=zAj h1
  have Hu:=zBu h1
  have Ka:g < w1.heap.size:=by omega
  have Hv:w1.cell? ⟨g,o+1,none⟩=some (.string b):=cW Hk hg Hi
  have Hw:=mA ((Blk.new w 44 #[.int .i64 0,.int .i64 0,.bool false,.slice none 0 0,.int .i64 0]).same h1)
  have Hp:=mA (Hj.base_ (base':=w.heap.size) (by simp))
  have Hl:=mA Hk
  clear Hk h1 Hj Ho Hi
  go_wp2_with fail
  refine (HB.out _).mono ?_;rintro e w2 ⟨⟨lv2,rfl,Hm⟩,h2⟩
  obtain ⟨A2,n2,c2,rfl⟩:=Hm.form
  have Hx:=zBu h2
  have Hy:w.heap.size < w2.heap.size:=by omega
  have Hc:Blk w2 w1.heap.size 44 #[.int .i64 ka.view,.int .i64 ka.normal,.bool ka.calm,.slice A1 n1 c1,.int .i64 ka.commit]:=(Blk.new w1 44 #[.int .i64 ka.view,.int .i64 ka.normal,.bool ka.calm,.slice A1 n1 c1,.int .i64 ka.commit]).same h2
  have hz:=(Hw.out.alloc (.cells #[.int .i64 ka.view,.int .i64 ka.normal,.bool ka.calm,.slice A1 n1 c1,.int .i64 ka.commit] 44)).same h2
  have Hn:=Hl.out.trans ((zAj h2).mono Hl.out.size)
  have Hq:=(Hp.out.alloc _).below h2
  have Hr:=Hm.base_ (base':=w.heap.size) (by have:=Hl.out.size;simp;omega)
  clear h2 Hm Hp
  go_upto_region 5 with fail
  obtain ⟨Wd,Hg⟩:=mJ (w2.alloc (.cells #[.int .i64 kb.view,.int .i64 kb.normal,.bool kb.calm,.slice A2 n2 c2,.int .i64 kb.commit] 44))
  rw [<- Hg]
  have Hd:Below w2.heap.size w2 Wd:=by rw [Hg];exact zAa _ _
  have Hh:Blk Wd w2.heap.size 44 #[.int .i64 kb.view,.int .i64 kb.normal,.bool kb.calm,.slice A2 n2 c2,.int .i64 kb.commit]:=by rw [Hg];exact Blk.new _ _ _
  have Hc:=Hc.same Hd
  have hz:=hz.same Hd
  have He:=mA (Hn.trans (Hd.mono Hn.size))
  have Hf:=mA (Hq.below Hd)
  have Hs:=mA (Hr.below Hd)
  obtain ⟨kc0,kc1,kc2,kc3,kc4⟩:=cz5 Hc
  have kcz:=Hc.frozen
  obtain ⟨kd0,kd1,kd2,kd3,kd4⟩:=cz5 Hh
  have kdz:=Hh.frozen
  obtain ⟨zc0,zc1,zc2,zc3,zc4⟩:=cz5 hz
  have zcz:=hz.frozen
  have Kb:=hz.lt
  have Kc:=Hc.lt
  have Kd:=Hh.lt
  have HZ:=mA hz
  clear hz Hc Hh Hn Hq Hr Hd Hg Hv
  by_cases ha:ea=0
  ·subst ha
   by_cases hb:eb=0
   ·subst hb
    by_cases Ht:ga < gb
    ·have HF:=mA (show Scu.load [a,b]=(kb,gb,1,0) by rw [Hb.out];rw [if_neg (by simp),if_pos (.inr ⟨rfl,Ht⟩)])
     have Ha:Blk _ w.heap.size 44 #[.int .i64 kb.view,.int .i64 kb.normal,.bool kb.calm,.slice A2 n2 c2,.int .i64 kb.commit]:=((((HZ.out.set_ 0 (.int .i64 kb.view)).set_ 1 (.int .i64 kb.normal)).set_ 2 (.bool kb.calm)).set_ 3 (.slice A2 n2 c2)).set_ 4 (.int .i64 kb.commit)
     obtain ⟨r0,r1,r2,r3,r4⟩:=cz5 Ha
     have rz:=Ha.frozen
     clear Hb Ha
     go_wp2
     refine bodyPost_ret (v:=.tuple #[.agg #[.int .i64 kb.view,.int .i64 kb.normal,.bool kb.calm,.slice A2 n2 c2,.int .i64 kb.commit],.int .i64 gb,.int .i64 1,.int .i64 0]) (by simp [results,Tryd.results15,go_sem,r0,r1,r2,r3,r4]) rfl ?_
     refine ⟨?_,zAu He.out (mC _)⟩
     rw [HF.out]
     exact ⟨_,rfl,Hs.out.same (Same.sets5 (B:=0) HZ.out (mE _) (by decide) _ _ _ _ _)⟩
    have Ke:gb<=ga:=by omega
    have HF:=mA (show Scu.load [a,b]=(ka,ga,0,0) by rw [Hb.out];rw [if_neg (by simp),if_neg (by omega)])
    have Ha:Blk _ w.heap.size 44 #[.int .i64 ka.view,.int .i64 ka.normal,.bool ka.calm,.slice A1 n1 c1,.int .i64 ka.commit]:=((((HZ.out.set_ 0 (.int .i64 ka.view)).set_ 1 (.int .i64 ka.normal)).set_ 2 (.bool ka.calm)).set_ 3 (.slice A1 n1 c1)).set_ 4 (.int .i64 ka.commit)
    obtain ⟨r0,r1,r2,r3,r4⟩:=cz5 Ha
    have rz:=Ha.frozen
    clear Hb Ht Ha
    go_wp2
    refine bodyPost_ret (v:=.tuple #[.agg #[.int .i64 ka.view,.int .i64 ka.normal,.bool ka.calm,.slice A1 n1 c1,.int .i64 ka.commit],.int .i64 ga,.int .i64 0,.int .i64 0]) (by simp [results,Tryd.results15,go_sem,r0,r1,r2,r3,r4]) rfl ?_
    refine ⟨?_,zAu He.out (mC _)⟩
    rw [HF.out]
    exact ⟨_,rfl,Hf.out.same (Same.sets5 (B:=0) HZ.out (mE _) (by decide) _ _ _ _ _)⟩
   have Hz:(eb != 0)=true:=by simpa using hb
   have Kf:(eb == 0)=false:=by simpa using hb
   have HF:=mA (show Scu.load [a,b]=(ka,ga,0,0) by rw [Hb.out];rw [if_neg (by simp),if_neg (by omega)])
   have Ha:Blk _ w.heap.size 44 #[.int .i64 ka.view,.int .i64 ka.normal,.bool ka.calm,.slice A1 n1 c1,.int .i64 ka.commit]:=((((HZ.out.set_ 0 (.int .i64 ka.view)).set_ 1 (.int .i64 ka.normal)).set_ 2 (.bool ka.calm)).set_ 3 (.slice A1 n1 c1)).set_ 4 (.int .i64 ka.commit)
   obtain ⟨r0,r1,r2,r3,r4⟩:=cz5 Ha
   have rz:=Ha.frozen
   clear Hb hb Ha
   go_wp2
   refine bodyPost_ret (v:=.tuple #[.agg #[.int .i64 ka.view,.int .i64 ka.normal,.bool ka.calm,.slice A1 n1 c1,.int .i64 ka.commit],.int .i64 ga,.int .i64 0,.int .i64 0]) (by simp [results,Tryd.results15,go_sem,r0,r1,r2,r3,r4]) rfl ?_
   refine ⟨?_,zAu He.out (mC _)⟩
   rw [HF.out]
   exact ⟨_,rfl,Hf.out.same (Same.sets5 (B:=0) HZ.out (mE _) (by decide) _ _ _ _ _)⟩
  have Kg:(ea != 0)=true:=by simpa using ha
  by_cases hb:eb=0
  ·subst hb
   have HF:=mA (show Scu.load [a,b]=(kb,gb,1,0) by rw [Hb.out];rw [if_neg (by simp),if_pos (.inl ha)])
   have Ha:Blk _ w.heap.size 44 #[.int .i64 kb.view,.int .i64 kb.normal,.bool kb.calm,.slice A2 n2 c2,.int .i64 kb.commit]:=((((HZ.out.set_ 0 (.int .i64 kb.view)).set_ 1 (.int .i64 kb.normal)).set_ 2 (.bool kb.calm)).set_ 3 (.slice A2 n2 c2)).set_ 4 (.int .i64 kb.commit)
   obtain ⟨r0,r1,r2,r3,r4⟩:=cz5 Ha
   have rz:=Ha.frozen
   clear Hb ha Ha
   go_wp2
   refine bodyPost_ret (v:=.tuple #[.agg #[.int .i64 kb.view,.int .i64 kb.normal,.bool kb.calm,.slice A2 n2 c2,.int .i64 kb.commit],.int .i64 gb,.int .i64 1,.int .i64 0]) (by simp [results,Tryd.results15,go_sem,r0,r1,r2,r3,r4]) rfl ?_
   refine ⟨?_,zAu He.out (mC _)⟩
   rw [HF.out]
   exact ⟨_,rfl,Hs.out.same (Same.sets5 (B:=0) HZ.out (mE _) (by decide) _ _ _ _ _)⟩
  have Hz:(eb != 0)=true:=by simpa using hb
  have HF:=mA (show Scu.load [a,b]=(Scu.kept0,0,0,13) by rw [Hb.out,if_pos ⟨ha,hb⟩])
  have Ha:Blk _ w.heap.size 44 #[.int .i64 0,.int .i64 0,.bool false,.slice none 0 0,.int .i64 0]:=((((HZ.out.set_ 0 (.int .i64 0)).set_ 1 (.int .i64 0)).set_ 2 (.bool false)).set_ 3 (.slice none 0 0)).set_ 4 (.int .i64 0)
  obtain ⟨r0,r1,r2,r3,r4⟩:=cz5 Ha
  have rz:=Ha.frozen
  clear ha hb Ha
  go_wp2
  refine bodyPost_ret (v:=.tuple #[.agg #[.int .i64 0,.int .i64 0,.bool false,.slice none 0 0,.int .i64 0],.int .i64 0,.int .i64 0,.int .i64 13]) (by simp [results,Tryd.results15,go_sem,r0,r1,r2,r3,r4]) rfl ?_
  exact ⟨by rw [HF.out];exact zNm _ _ _,zAu He.out (mC _)⟩
 rw [Scu.load_len h2]
 have hb:((l.length:Int) != 2)=true:=by simpa using (show ¬ (l.length:Int)=2 by omega)
 clear h2 hr he
 go_enter Tryd.func15,Tryd.ntmps15
 go_wp2
 go_returns
 exact ⟨zNm _ _ _,(mG _ _).alloc (mC _) _⟩
def NewRet (w:World) (r:Scu.Replica) (c:Int) (e:Ending):Prop:=∃ lu hv wv gv nv,e=.returned (.tuple #[.agg #[.int .i64 r.me,.int .i64 r.kept.view,.int .i64 r.kept.normal,.bool r.kept.calm,lu,.int .i64 r.kept.commit,hv,wv,gv,nv],.int .i64 c])/\IsRep w 0 lu hv wv gv nv r
theorem zPw (w:World) (c:Int):NewRet w Scu.replica0 c (.returned (.tuple #[.agg #[.int .i64 0,.int .i64 0,.int .i64 0,.bool false,.slice none 0 0,.int .i64 0,.slice none 0 0,.slice none 0 0,.slice none 0 0,.slice none 0 0],.int .i64 c])) :=
 ⟨_,_,_,_,_,rfl,IsStrs.nil_,⟨⟨none,0,rfl,mC _,Rd.nil⟩,by simp [Scu.replica0,R47]⟩,⟨⟨none,0,rfl,mC _,Rd.nil⟩,by simp [Scu.replica0,R47]⟩,IsRow.nil_,⟨⟨none,0,rfl,mC _,Rd.nil⟩,by simp [Scu.replica0,R47]⟩⟩
section
variable {me:Int} {k:Scu.Kept}
theorem nw1 (h:me < 0\/3<=me):Scu.repNew me k=(Scu.replica0,2):=if_pos h
theorem nw2 (h:¬ (me < 0\/3<=me)) (hk:Scu.keptFault k≠0):Scu.repNew me k=(Scu.replica0,Scu.keptFault k):=by unfold Scu.repNew;rw [if_neg h,if_pos hk]
theorem nw3 (h:¬ (me < 0\/3<=me)) (hk:¬ Scu.keptFault k≠0):Scu.repNew me k=(⟨me,k,[0,0,0],[false,false,false],[Scu.kept0,Scu.kept0,Scu.kept0],[false,false,false]⟩,0):=by unfold Scu.repNew;rw [if_neg h,if_neg hk]
end
theorem zIa (lv:Value) (k:Scu.Kept) (w:World) (B:Nat) (hv:IsStrs w B lv k.log) (f:Int) (h:Scu.keptFault k=f) :
 Calls Tryd.prog 34 #[.agg #[.int .i64 k.view,.int .i64 k.normal,.bool k.calm,lv,.int .i64 k.commit]] w fun e w'=>e=.returned (.int .i64 f)/\Below w.heap.size w w':=by
 have:=zDw lv k w B hv
 rw [h] at this
 exact this
theorem zVm (A:Option Addr) (n c:Nat) (me:Int) (k:Scu.Kept) (w:World) (hm:me < 0\/3<=me) :
 Calls Tryd.prog 29 #[.int .i64 me,.agg #[.int .i64 k.view,.int .i64 k.normal,.bool k.calm,.slice A n c,.int .i64 k.commit]] w fun e w'=>NewRet w' Scu.replica0 2 e/\Below w.heap.size w w':=by
 have hb:Below w.heap.size w ((w.alloc (.cells #[.int .i64 k.view,.int .i64 k.normal,.bool k.calm,.slice A n c,.int .i64 k.commit] 44)).alloc (.cells zR 49)):=(zAa w _).alloc (by simp) _
 rcases hm with hm | hm
 all_goals
  go_enter Tryd.func29,Tryd.ntmps29
  go_wp2
  refine bodyPost_ret (v:=.tuple #[.agg zR,.int .i64 2]) (by simp [results,Tryd.results29,go_sem]) rfl ?_
  exact ⟨zPw _ _,hb⟩
theorem zVn (A:Option Addr) (n c:Nat) (me:Int) (k:Scu.Kept) (w:World) (B:Nat) (hk:IsStrs w B (.slice A n c) k.log) (Hb:0<=me) (hm:me < 3) (f:Int) (hf:Scu.keptFault k=f) (h0:f≠0) :
 Calls Tryd.prog 29 #[.int .i64 me,.agg #[.int .i64 k.view,.int .i64 k.normal,.bool k.calm,.slice A n c,.int .i64 k.commit]] w fun e w'=>NewRet w' Scu.replica0 f e/\Below w.heap.size w w':=by
 have HK:=mA hk
 have HF:=mA hf
 have Hc:(f != 0)=true:=by simpa using h0
 clear hk hf h0
 go_enter Tryd.func29,Tryd.ntmps29
 go_wp2_with fail
 have Ha:Below w.heap.size w ((w.alloc (.cells #[.int .i64 k.view,.int .i64 k.normal,.bool k.calm,.slice A n c,.int .i64 k.commit] 44)).alloc (.cells zR 49)):=(zAa w _).alloc (by simp) _
 refine (zIa _ k _ B (HK.out.below Ha) f HF.out).mono ?_;rintro en w1 ⟨rfl,h1⟩
 have hz:Blk w1 (w.heap.size+1) 49 zR:=(Blk.new' (by simp)).same h1
 have hb:=Ha.trans (h1.mono Ha.size)
 obtain ⟨z0,z1,z2,z3,z4,z5,z6,z7,z8,z9⟩:=cz10 hz
 have zz:=hz.frozen
 have zl:=hz.lt
 have hr:=zAr (a0:=.int .i64 0) (a1:=.int .i64 0) (a2:=.int .i64 0) (a3:=.bool false) (a4:=.slice none 0 0) (a5:=.int .i64 0) (a6:=.slice none 0 0) (a7:=.slice none 0 0) (a8:=.slice none 0 0) (a9:=.slice none 0 0) hz
 obtain ⟨r0,r1,r2,r3,r4,r5,r6,r7,r8,r9⟩:=cz10 hr
 have rz:=hr.frozen
 have rl:=hr.lt
 clear h1 Ha
 go_wp2
 refine bodyPost_ret (v:=.tuple #[.agg zR,.int .i64 f]) (by simp [results,Tryd.results29,go_sem,r0,r1,r2,r3,r4,r5,r6,r7,r8,r9]) rfl ?_
 exact ⟨zPw _ _,zAf hb (by omega)⟩
structure NewI (me:Int) (k:Scu.Kept) (b:Nat) (L:Array Bool) (x20 x21 x22 x23 x24 x25 x26 x27 kv:Value) (W:World):Prop where
 f0:Dn L 0->x20=.int .i64 me
 f1:Dn L 1->x21=kv
 f2:Dn L 2->∃ lu,x22=.agg #[.int .i64 k.view,.int .i64 k.normal,.bool k.calm,lu,.int .i64 k.commit]/\IsStrs W 0 lu k.log
 f3:Dn L 3->IsOnes 3 8 vInt W 0 x23 [0,0,0]
 f4:Dn L 4->IsOnes 4 1 Value.bool W 0 x24 [false,false,false]
 f5:Dn L 5->IsRow 44 5 56 KeptEl W 0 x25 [Scu.kept0,Scu.kept0,Scu.kept0]
 f6:Dn L 6->IsOnes 4 1 Value.bool W 0 x26 [false,false,false]
 f7:Dn L 7->∃ lu hv wv gv nv,x27=.agg #[.int .i64 me,.int .i64 k.view,.int .i64 k.normal,.bool k.calm,lu,.int .i64 k.commit,hv,wv,gv,nv]/\IsRep W 0 lu hv wv gv nv ⟨me,k,[0,0,0],[false,false,false],[Scu.kept0,Scu.kept0,Scu.kept0],[false,false,false]⟩
 f8:Dn L 8->∃ lu hv wv gv nv,Blk W b 49 #[.int .i64 me,.int .i64 k.view,.int .i64 k.normal,.bool k.calm,lu,.int .i64 k.commit,hv,wv,gv,nv]/\IsRep W 0 lu hv wv gv nv ⟨me,k,[0,0,0],[false,false,false],[Scu.kept0,Scu.kept0,Scu.kept0],[false,false,false]⟩
 res:¬ Dn L 8->Blk W b 49 #[.int .i64 0,.int .i64 0,.int .i64 0,.bool false,.slice none 0 0,.int .i64 0,.slice none 0 0,.slice none 0 0,.slice none 0 0,.slice none 0 0]
theorem NewI.below {me:Int} {k:Scu.Kept} {b:Nat} {L:Array Bool} {x20 x21 x22 x23 x24 x25 x26 x27 kv:Value} {W W':World} (h:NewI me k b L x20 x21 x22 x23 x24 x25 x26 x27 kv W) (hb:Below W.heap.size W W'):NewI me k b L x20 x21 x22 x23 x24 x25 x26 x27 kv W' :=
 ⟨h.f0,h.f1,fun d=>let ⟨lu,e,g⟩:=h.f2 d;⟨lu,e,g.below hb⟩,fun d=>(h.f3 d).below hb,fun d=>(h.f4 d).below hb,
  fun d=>(h.f5 d).same (Ts:=[9,44]) (by simp) (Same.below hb) (fun _ _ hk=>hk.same (Ts:=[9]) (by simp) (Same.below hb)),fun d=>(h.f6 d).below hb,
  fun d=>let ⟨a1,a2,a3,a4,a5,e,g⟩:=h.f7 d;⟨a1,a2,a3,a4,a5,e,g.below hb⟩,fun d=>let ⟨a1,a2,a3,a4,a5,e,g⟩:=h.f8 d;⟨a1,a2,a3,a4,a5,e.same hb,g.below hb⟩,fun d=>(h.res d).same hb⟩
theorem zHc {L:Array Bool} {i k:Nat} (h:¬ Dn (L.setIfInBounds i true) k):¬ Dn L k:=fun hd=>h (by
 unfold Dn at *
 by_cases e:i=k
 ·subst e
  rw [Array.getD_eq_getD_getElem?] at hd ⊢
  rcases Nat.lt_or_ge i L.size with hl | hl
  ·simp [hl]
  rw [Array.getElem?_eq_none hl] at hd;cases hd
 rw [Array.getD_eq_getD_getElem?,Array.getElem?_setIfInBounds_ne e,<- Array.getD_eq_getD_getElem?]
 exact hd)
theorem zNn {L:Array Bool} {j:Nat} (h:L[j]?.getD false=true):Dn L j:=by
 unfold Dn
 rw [Array.getD_eq_getD_getElem?]
 exact h
theorem zZb {L:Array Bool} {i:Nat} (h:i < L.size):Dn (L.setIfInBounds i true) i:=by
 unfold Dn
 rw [Array.getD_eq_getD_getElem?]
 simp [h]
theorem yBe {L:Array Bool} {i:Nat} (h:L.getD i true=false):¬ Dn L i:=fun hd=>by
 unfold Dn at hd
 rw [Array.getD_eq_getD_getElem?] at h hd
 cases e:L[i]? with
 | none=>rw [e] at hd;cases hd
 | some b=>rw [e] at h hd;simp at h hd;rw [h] at hd;cases hd
theorem zVo {W W':World} {g:Nat} {t:TypeId} {cs:Array Value} {Ts:List TypeId} (h:Blk W g t cs) (hs:Same Ts 0 W W') (ht:t ∈ Ts):Blk W' g t cs:=(hs.keep g h.lt (.inr ⟨_,_,_,ht,h⟩)).trans h
theorem NewI.store {me:Int} {k:Scu.Kept} {b:Nat} {L:Array Bool} {x20 x21 x22 x23 x24 x25 x26 x27 kv lu hv wv gv nv:Value} {w:World} (h:NewI me k b L x20 x21 x22 x23 x24 x25 x26 x27 kv w) (hl:8 < L.size) (hz:Blk w b 49 #[.int .i64 0,.int .i64 0,.int .i64 0,.bool false,.slice none 0 0,.int .i64 0,.slice none 0 0,.slice none 0 0,.slice none 0 0,.slice none 0 0])
 (hr:IsRep w 0 lu hv wv gv nv ⟨me,k,[0,0,0],[false,false,false],[Scu.kept0,Scu.kept0,Scu.kept0],[false,false,false]⟩) :
 NewI me k b (L.setIfInBounds 8 true) x20 x21 x22 x23 x24 x25 x26 x27 kv ((((((((((w.setCell ⟨b,0,none⟩ (.int .i64 me)).setCell ⟨b,1,none⟩ (.int .i64 k.view)).setCell ⟨b,2,none⟩ (.int .i64 k.normal)).setCell ⟨b,3,none⟩ (.bool k.calm)).setCell ⟨b,4,none⟩ lu).setCell ⟨b,5,none⟩ (.int .i64 k.commit)).setCell ⟨b,6,none⟩ hv).setCell ⟨b,7,none⟩ wv).setCell ⟨b,8,none⟩ gv).setCell ⟨b,9,none⟩ nv):=by
 have hs:=Same.sets10 (Ts:=[9,3,4,44]) (B:=0) (a0:=.int .i64 me) (a1:=.int .i64 k.view) (a2:=.int .i64 k.normal) (a3:=.bool k.calm) (a4:=lu) (a5:=.int .i64 k.commit) (a6:=hv) (a7:=wv) (a8:=gv) (a9:=nv) hz (mE _) (by decide)
 exact ⟨fun d=>h.f0 (zAe d (by decide)),fun d=>h.f1 (zAe d (by decide)),fun d=>let ⟨l,e,g⟩:=h.f2 (zAe d (by decide));⟨l,e,g.same (by simp) hs⟩,fun d=>(h.f3 (zAe d (by decide))).same (by simp) hs,fun d=>(h.f4 (zAe d (by decide))).same (by simp) hs,
  fun d=>(h.f5 (zAe d (by decide))).same (by simp) hs (fun _ _ hk=>hk.same (by simp) hs),fun d=>(h.f6 (zAe d (by decide))).same (by simp) hs,fun d=>let ⟨a1,a2,a3,a4,a5,e,g⟩:=h.f7 (zAe d (by decide));⟨a1,a2,a3,a4,a5,e,g.same hs⟩,
  fun _=>⟨_,_,_,_,_,zAr hz,hr.same hs⟩,fun d=>(d (zZb hl)).elim⟩
theorem zTf (w:World):(Instr.makeSlice 45 (.int .i64 3) (.int .i64 3)).run Tryd.prog w=.ok (.slice (some ⟨w.heap.size,0,none⟩) 3 3) (w.alloc (.cells #[.int .i64 0,.int .i64 0,.int .i64 0] 3)):=by kernel_rfl
theorem zRf (w:World):(Instr.makeSlice 46 (.int .i64 3) (.int .i64 3)).run Tryd.prog w=.ok (.slice (some ⟨w.heap.size,0,none⟩) 3 3) (w.alloc (.cells #[.bool false,.bool false,.bool false] 4)):=by kernel_rfl
theorem zRg (w:World):(Instr.makeSlice 47 (.int .i64 3) (.int .i64 3)).run Tryd.prog w=.ok (.slice (some ⟨w.heap.size,0,none⟩) 3 3) (w.alloc (.cells #[.int .i64 0,.int .i64 0,.bool false,.slice none 0 0,.int .i64 0,.int .i64 0,.int .i64 0,.bool false,.slice none 0 0,.int .i64 0,.int .i64 0,.int .i64 0,.bool false,.slice none 0 0,.int .i64 0] 44)):=by kernel_rfl
theorem zLy {α:Type} {t:TypeId} {bytes:Nat} {f:α->Value} {w:World} {g:Nat} {xs:List α} (h:Blk w g t (xs.map f).toArray) (h1:xs.length*bytes<=R47):IsOnes t bytes f w 0 (.slice (some ⟨g,0,none⟩) xs.length xs.length) xs :=
 ⟨⟨_,_,rfl,mC _,.inr ⟨g,0,rfl,h.lt,.inr ⟨_,_,h⟩,fun j u hj=>by
   rw [h.cell]
   simpa using hj⟩⟩,h1⟩
theorem zTg {w:World} {g:Nat} (h:Blk w g 44 #[.int .i64 0,.int .i64 0,.bool false,.slice none 0 0,.int .i64 0,.int .i64 0,.int .i64 0,.bool false,.slice none 0 0,.int .i64 0,.int .i64 0,.int .i64 0,.bool false,.slice none 0 0,.int .i64 0]) :
 IsRow 44 5 56 KeptEl w 0 (.slice (some ⟨g,0,none⟩) 3 3) [Scu.kept0,Scu.kept0,Scu.kept0] :=
 ⟨⟨some ⟨g,0,none⟩,3,[keptV Scu.kept0 (.slice none 0 0),keptV Scu.kept0 (.slice none 0 0),keptV Scu.kept0 (.slice none 0 0)],rfl,mC _,rfl,(fun cs hc=>by
  simp only [List.mem_cons,List.not_mem_nil,or_false] at hc
  rcases hc with rfl | rfl | rfl <;> rfl),.inr ⟨g,0,rfl,h.lt,.inr ⟨_,_,h⟩,fun j u hj=>by
   rw [h.cell]
   simpa [keptV,Scu.kept0] using hj⟩,fun j cs x hc hx=>by
    rcases j with _ | _ | _ | j <;> simp only [List.getElem?_cons_zero,List.getElem?_cons_succ,List.getElem?_nil,Option.some.injEq,reduceCtorEq] at hc hx <;> (subst hc;subst hx;exact ⟨_,rfl,IsStrs.nil_⟩)⟩,by simp [R47]⟩
theorem zVp (A:Option Addr) (n c:Nat) (me:Int) (k:Scu.Kept) (w:World) (B:Nat) (hk:IsStrs w B (.slice A n c) k.log) (Hk:0<=me) (hm:me < 3) (hf:Scu.keptFault k=0) :
 Calls Tryd.prog 29 #[.int .i64 me,.agg #[.int .i64 k.view,.int .i64 k.normal,.bool k.calm,.slice A n c,.int .i64 k.commit]] w fun e w'=>NewRet w' ⟨me,k,[0,0,0],[false,false,false],[Scu.kept0,Scu.kept0,Scu.kept0],[false,false,false]⟩ 0 e/\Below w.heap.size w w':=by
 have HK:=mA hk
 have HF:=mA hf
 clear hk hf
 go_enter Tryd.func29,Tryd.ntmps29
 go_wp2_with fail
 have Hg:Below w.heap.size w ((w.alloc (.cells #[.int .i64 k.view,.int .i64 k.normal,.bool k.calm,.slice A n c,.int .i64 k.commit] 44)).alloc (.cells zR 49)):=(zAa w _).alloc (by simp) _
 refine (zIa _ k _ B (HK.out.below Hg) 0 HF.out).mono ?_;rintro en w1 ⟨rfl,h1⟩
 have hz:Blk w1 (w.heap.size+1) 49 zR:=(Blk.new' (by simp)).same h1
 have hs:Blk w1 w.heap.size 44 #[.int .i64 k.view,.int .i64 k.normal,.bool k.calm,.slice A n c,.int .i64 k.commit]:=((Blk.new w _ _).alloc _).same h1
 have hb:=Hg.trans (h1.mono Hg.size)
 go_upto_region 6 with fail
 have Hl:=zTf
 have Hm:=zRf
 have Hn:=zRg
 refine zLi (by kernel_rfl) (fun L a W=>L.size=10/\∃ x20 x21 x22 x23 x24 x25 x26 x27,a=⟨#[.int .i64 me,.agg #[.int .i64 k.view,.int .i64 k.normal,.bool k.calm,.slice A n c,.int .i64 k.commit],undef,.pointer (some ⟨w.heap.size,0,none⟩),.pointer (some ⟨w.heap.size+1,0,none⟩),.int .i64 0,.int .i64 0,.int .i64 me,.bool (decide (me < 0)),.bool (decide (me < 0)),.int .i64 me,.bool (decide (3<=me)),.bool (decide (me < 0) || decide (3<=me)),undef,.agg #[.int .i64 k.view,.int .i64 k.normal,.bool k.calm,.slice A n c,.int .i64 k.commit],.int .i64 0,.int .i64 0,.bool false,undef,undef,x20,x21,x22,x23,x24,x25,x26,x27],[]⟩/\Hid (Blk W w.heap.size 44 #[.int .i64 k.view,.int .i64 k.normal,.bool k.calm,.slice A n c,.int .i64 k.commit]/\Below w.heap.size w W/\NewI me k (w.heap.size+1) L x20 x21 x22 x23 x24 x25 x26 x27 (.agg #[.int .i64 k.view,.int .i64 k.normal,.bool k.calm,.slice A n c,.int .i64 k.commit]) W)) ?_ ?_ ?_
 ·exact ⟨by simp,undef,undef,undef,undef,undef,undef,undef,undef,rfl,mA ⟨hs.drew,hb.drew,⟨fun h=>(zEv h).elim,fun h=>(zEv h).elim,fun h=>(zEv h).elim,fun h=>(zEv h).elim,fun h=>(zEv h).elim,fun h=>(zEv h).elim,fun h=>(zEv h).elim,fun h=>(zEv h).elim,fun h=>(zEv h).elim,fun _=>hz.drew⟩⟩⟩
 ·intro L a W i hI hi
  obtain ⟨hl,x20,x21,x22,x23,x24,x25,x26,x27,rfl,hX⟩:=hI
  obtain ⟨Hb,Ha,hN⟩:=hX.out
  obtain ⟨Hh,Hi,Hc⟩:=mem_ready hi
  have Hf:i=0\/i=1\/i=2\/i=3\/i=4\/i=5\/i=6\/i=7\/i=8\/i=9:=by simp at Hh;omega
  obtain ⟨q0,q1,q2,q3,q4⟩:=cz5 Hb
  have HX:=mA (mB Hb (mB Ha hN))
  clear hi Hh hX Hb Ha hN hz hs hb Hg h1
  rcases Hf with rfl | rfl | rfl | rfl | rfl | rfl | rfl | rfl | rfl | rfl
  ·clear Hc
   refine zEe rfl rfl ?_
   go_simp
   obtain ⟨Hb,Ha,hN⟩:=HX.out
   exact ⟨_,_,_,_,_,_,_,_,⟨rfl,rfl,rfl,rfl,rfl,rfl,rfl,rfl⟩,mA ⟨Hb,Ha,⟨fun _=>rfl,fun d=>hN.f1 (zAe d (by decide)),fun d=>hN.f2 (zAe d (by decide)),fun d=>hN.f3 (zAe d (by decide)),fun d=>hN.f4 (zAe d (by decide)),fun d=>hN.f5 (zAe d (by decide)),fun d=>hN.f6 (zAe d (by decide)),fun d=>hN.f7 (zAe d (by decide)),fun d=>hN.f8 (zAe d (by decide)),fun d=>hN.res (zHc d)⟩⟩⟩
  ·clear Hc
   refine zEe rfl rfl ?_
   go_simp
   obtain ⟨Hb,Ha,hN⟩:=HX.out
   exact ⟨_,_,_,_,_,_,_,_,⟨rfl,rfl,rfl,rfl,rfl,rfl,rfl,rfl⟩,mA ⟨Hb,Ha,⟨fun d=>hN.f0 (zAe d (by decide)),fun _=>rfl,fun d=>hN.f2 (zAe d (by decide)),fun d=>hN.f3 (zAe d (by decide)),fun d=>hN.f4 (zAe d (by decide)),fun d=>hN.f5 (zAe d (by decide)),fun d=>hN.f6 (zAe d (by decide)),fun d=>hN.f7 (zAe d (by decide)),fun d=>hN.f8 (zAe d (by decide)),fun d=>hN.res (zHc d)⟩⟩⟩
  ·simp [Region.binds] at Hc
   have g1:=HX.out.2.2.f1 (zNn Hc)
   subst g1
   refine zEe rfl rfl ?_
   go_simp
   refine (zGg _ k W B (HK.out.below HX.out.2.1)).mono ?_;rintro en W2 ⟨⟨lu,rfl,hu⟩,h2⟩
   obtain ⟨Hb,Ha,He⟩:=HX.out
   have hN:=He.below h2
   exact ⟨_,_,_,_,_,_,_,_,⟨rfl,rfl,rfl,rfl,rfl,rfl,rfl,rfl⟩,mA ⟨Hb.same h2,Ha.trans (h2.mono Ha.size),⟨fun d=>hN.f0 (zAe d (by decide)),fun d=>hN.f1 (zAe d (by decide)),fun _=>⟨_,rfl,hu.is⟩,fun d=>hN.f3 (zAe d (by decide)),fun d=>hN.f4 (zAe d (by decide)),fun d=>hN.f5 (zAe d (by decide)),fun d=>hN.f6 (zAe d (by decide)),fun d=>hN.f7 (zAe d (by decide)),fun d=>hN.f8 (zAe d (by decide)),fun d=>hN.res (zHc d)⟩⟩⟩
  ·clear Hc
   refine zEe rfl rfl ?_
   go_simp
   obtain ⟨Hb,Ha,He⟩:=HX.out
   have hN:=He.below (zAa W (.cells #[.int .i64 0,.int .i64 0,.int .i64 0] 3))
   have hn:Blk (W.alloc (.cells #[.int .i64 0,.int .i64 0,.int .i64 0] 3)) W.heap.size 3 #[.int .i64 0,.int .i64 0,.int .i64 0]:=Blk.new _ _ _
   exact ⟨_,_,_,_,_,_,_,_,⟨rfl,rfl,rfl,rfl,rfl,rfl,rfl,rfl⟩,mA ⟨Hb.alloc _,Ha.alloc Ha.size _,⟨fun d=>hN.f0 (zAe d (by decide)),fun d=>hN.f1 (zAe d (by decide)),fun d=>hN.f2 (zAe d (by decide)),fun _=>zLy (xs:=[0,0,0]) hn (by simp [R47]),fun d=>hN.f4 (zAe d (by decide)),fun d=>hN.f5 (zAe d (by decide)),fun d=>hN.f6 (zAe d (by decide)),fun d=>hN.f7 (zAe d (by decide)),fun d=>hN.f8 (zAe d (by decide)),fun d=>hN.res (zHc d)⟩⟩⟩
  ·clear Hc
   refine zEe rfl rfl ?_
   go_simp
   obtain ⟨Hb,Ha,He⟩:=HX.out
   have hN:=He.below (zAa W (.cells #[.bool false,.bool false,.bool false] 4))
   have hn:Blk (W.alloc (.cells #[.bool false,.bool false,.bool false] 4)) W.heap.size 4 #[.bool false,.bool false,.bool false]:=Blk.new _ _ _
   exact ⟨_,_,_,_,_,_,_,_,⟨rfl,rfl,rfl,rfl,rfl,rfl,rfl,rfl⟩,mA ⟨Hb.alloc _,Ha.alloc Ha.size _,⟨fun d=>hN.f0 (zAe d (by decide)),fun d=>hN.f1 (zAe d (by decide)),fun d=>hN.f2 (zAe d (by decide)),fun d=>hN.f3 (zAe d (by decide)),fun _=>zLy (xs:=[false,false,false]) hn (by simp [R47]),fun d=>hN.f5 (zAe d (by decide)),fun d=>hN.f6 (zAe d (by decide)),fun d=>hN.f7 (zAe d (by decide)),fun d=>hN.f8 (zAe d (by decide)),fun d=>hN.res (zHc d)⟩⟩⟩
  ·clear Hc
   refine zEe rfl rfl ?_
   go_simp
   obtain ⟨Hb,Ha,He⟩:=HX.out
   have hN:=He.below (zAa W (.cells #[.int .i64 0,.int .i64 0,.bool false,.slice none 0 0,.int .i64 0,.int .i64 0,.int .i64 0,.bool false,.slice none 0 0,.int .i64 0,.int .i64 0,.int .i64 0,.bool false,.slice none 0 0,.int .i64 0] 44))
   have hn:Blk (W.alloc (.cells #[.int .i64 0,.int .i64 0,.bool false,.slice none 0 0,.int .i64 0,.int .i64 0,.int .i64 0,.bool false,.slice none 0 0,.int .i64 0,.int .i64 0,.int .i64 0,.bool false,.slice none 0 0,.int .i64 0] 44)) W.heap.size 44 #[.int .i64 0,.int .i64 0,.bool false,.slice none 0 0,.int .i64 0,.int .i64 0,.int .i64 0,.bool false,.slice none 0 0,.int .i64 0,.int .i64 0,.int .i64 0,.bool false,.slice none 0 0,.int .i64 0]:=Blk.new _ _ _
   exact ⟨_,_,_,_,_,_,_,_,⟨rfl,rfl,rfl,rfl,rfl,rfl,rfl,rfl⟩,mA ⟨Hb.alloc _,Ha.alloc Ha.size _,⟨fun d=>hN.f0 (zAe d (by decide)),fun d=>hN.f1 (zAe d (by decide)),fun d=>hN.f2 (zAe d (by decide)),fun d=>hN.f3 (zAe d (by decide)),fun d=>hN.f4 (zAe d (by decide)),fun _=>zTg hn,fun d=>hN.f6 (zAe d (by decide)),fun d=>hN.f7 (zAe d (by decide)),fun d=>hN.f8 (zAe d (by decide)),fun d=>hN.res (zHc d)⟩⟩⟩
  ·clear Hc
   refine zEe rfl rfl ?_
   go_simp
   obtain ⟨Hb,Ha,He⟩:=HX.out
   have hN:=He.below (zAa W (.cells #[.bool false,.bool false,.bool false] 4))
   have hn:Blk (W.alloc (.cells #[.bool false,.bool false,.bool false] 4)) W.heap.size 4 #[.bool false,.bool false,.bool false]:=Blk.new _ _ _
   exact ⟨_,_,_,_,_,_,_,_,⟨rfl,rfl,rfl,rfl,rfl,rfl,rfl,rfl⟩,mA ⟨Hb.alloc _,Ha.alloc Ha.size _,⟨fun d=>hN.f0 (zAe d (by decide)),fun d=>hN.f1 (zAe d (by decide)),fun d=>hN.f2 (zAe d (by decide)),fun d=>hN.f3 (zAe d (by decide)),fun d=>hN.f4 (zAe d (by decide)),fun d=>hN.f5 (zAe d (by decide)),fun _=>zLy (xs:=[false,false,false]) hn (by simp [R47]),fun d=>hN.f7 (zAe d (by decide)),fun d=>hN.f8 (zAe d (by decide)),fun d=>hN.res (zHc d)⟩⟩⟩
  ·simp [Region.binds] at Hc
   obtain ⟨d0,d2,d3,d4,d5,d6⟩:=Hc
   have g0:=HX.out.2.2.f0 (zNn d0)
   obtain ⟨lu,g2,gu⟩:=HX.out.2.2.f2 (zNn d2)
   have g3:=HX.out.2.2.f3 (zNn d3)
   have g4:=HX.out.2.2.f4 (zNn d4)
   have g5:=HX.out.2.2.f5 (zNn d5)
   have g6:=HX.out.2.2.f6 (zNn d6)
   obtain ⟨A0,n0,c0,rfl⟩:=gu.form
   obtain ⟨A1,n1,c1,rfl⟩:=g3.form
   obtain ⟨A2,n2,c2,rfl⟩:=g4.form
   obtain ⟨A3,n3,c3,rfl⟩:=g5.form
   obtain ⟨A4,n4,c4,rfl⟩:=g6.form
   subst g0
   subst g2
   have HR:=mA (show IsRep W 0 (.slice A0 n0 c0) (.slice A1 n1 c1) (.slice A2 n2 c2) (.slice A3 n3 c3) (.slice A4 n4 c4) ⟨me,k,[0,0,0],[false,false,false],[Scu.kept0,Scu.kept0,Scu.kept0],[false,false,false]⟩ from ⟨gu,g3,g4,g5,g6⟩)
   clear gu g3 g4 g5 g6 d0 d2 d3 d4 d5 d6
   refine zEe rfl rfl ?_
   go_simp
   obtain ⟨Hb,Ha,hN⟩:=HX.out
   exact ⟨_,_,_,_,_,_,_,_,⟨rfl,rfl,rfl,rfl,rfl,rfl,rfl,rfl⟩,mA ⟨Hb,Ha,⟨fun d=>hN.f0 (zAe d (by decide)),fun d=>hN.f1 (zAe d (by decide)),fun d=>hN.f2 (zAe d (by decide)),fun d=>hN.f3 (zAe d (by decide)),fun d=>hN.f4 (zAe d (by decide)),fun d=>hN.f5 (zAe d (by decide)),fun d=>hN.f6 (zAe d (by decide)),fun _=>⟨_,_,_,_,_,rfl,HR.out⟩,fun d=>hN.f8 (zAe d (by decide)),fun d=>hN.res (zHc d)⟩⟩⟩
  ·have d8:=yBe Hi
   simp [Region.binds] at Hc
   obtain ⟨d7,_⟩:=Hc
   obtain ⟨lu,hv,wv,gv,nv,g7,gr⟩:=HX.out.2.2.f7 (zNn d7)
   obtain ⟨A0,n0,c0,A1,c1,A2,c2,A3,c3,A4,c4,rfl,rfl,rfl,rfl,rfl⟩:=gr.forms
   subst g7
   have Hd:=HX.out.2.2.res d8
   obtain ⟨z0,z1,z2,z3,z4,z5,z6,z7,z8,z9⟩:=cz10 Hd
   have zz:=Hd.frozen
   have zl:=Hd.lt
   have HR:=mA gr
   have HS:=mA Hd
   clear gr Hd d7
   refine zEe rfl rfl ?_
   go_simp
   obtain ⟨Hb,Ha,hN⟩:=HX.out
   have Hj:=Same.sets10 (Ts:=[44]) (B:=0) (a0:=.int .i64 me) (a1:=.int .i64 k.view) (a2:=.int .i64 k.normal) (a3:=.bool k.calm) (a4:=.slice A0 n0 c0) (a5:=.int .i64 k.commit) (a6:=.slice A1 3 c1) (a7:=.slice A2 3 c2) (a8:=.slice A3 3 c3) (a9:=.slice A4 3 c4) HS.out (mE _) (by decide)
   exact ⟨_,_,_,_,_,_,_,_,⟨rfl,rfl,rfl,rfl,rfl,rfl,rfl,rfl⟩,mA ⟨zVo Hb Hj (by simp),zAf Ha (Nat.le_succ _),hN.store (by omega) HS.out HR.out⟩⟩
  clear Hc
  refine zEe rfl rfl ?_
  go_simp
  obtain ⟨Hb,Ha,hN⟩:=HX.out
  exact ⟨_,_,_,_,_,_,_,_,⟨rfl,rfl,rfl,rfl,rfl,rfl,rfl,rfl⟩,mA ⟨Hb,Ha,⟨fun d=>hN.f0 (zAe d (by decide)),fun d=>hN.f1 (zAe d (by decide)),fun d=>hN.f2 (zAe d (by decide)),fun d=>hN.f3 (zAe d (by decide)),fun d=>hN.f4 (zAe d (by decide)),fun d=>hN.f5 (zAe d (by decide)),fun d=>hN.f6 (zAe d (by decide)),fun d=>hN.f7 (zAe d (by decide)),fun d=>hN.f8 (zAe d (by decide)),fun d=>hN.res (zHc d)⟩⟩⟩
 intro L a W hI hr
 obtain ⟨hl,x20,x21,x22,x23,x24,x25,x26,x27,rfl,hX⟩:=hI
 obtain ⟨Hb,Ha,hN⟩:=hX.out
 have hd:=zUg (by kernel_rfl) hl hr 8 (by simp)
 obtain ⟨lu,hv,wv,gv,nv,hB,hR⟩:=hN.f8 hd
 obtain ⟨r0,r1,r2,r3,r4,r5,r6,r7,r8,r9⟩:=cz10 hB
 have rz:=hB.frozen
 have rl:=hB.lt
 clear hX Hb hN hr hl hd
 rename_i hK
 refine hK _ _ (Go.wp_ret ?_)
 refine bodyPost_ret (v:=.tuple #[.agg #[.int .i64 me,.int .i64 k.view,.int .i64 k.normal,.bool k.calm,lu,.int .i64 k.commit,hv,wv,gv,nv],.int .i64 0]) (by simp [results,Tryd.results29,go_sem,r0,r1,r2,r3,r4,r5,r6,r7,r8,r9]) rfl ?_
 exact ⟨⟨_,_,_,_,_,rfl,hR⟩,Ha⟩
theorem zVq (lv:Value) (me:Int) (k:Scu.Kept) (w:World) (B:Nat) (hk:IsStrs w B lv k.log) :
 Calls Tryd.prog 29 #[.int .i64 me,.agg #[.int .i64 k.view,.int .i64 k.normal,.bool k.calm,lv,.int .i64 k.commit]] w fun e w'=>NewRet w' (Scu.repNew me k).1 (Scu.repNew me k).2 e/\Below w.heap.size w w':=by
 obtain ⟨A,n,c,rfl⟩:=hk.form
 by_cases hm:me < 0\/3<=me
 ·rw [nw1 hm]
  exact zVm A n c me k w hm
 by_cases hf:Scu.keptFault k≠0
 ·rw [nw2 hm hf]
  exact zVn A n c me k w B hk (by omega) (by omega) _ rfl hf
 rw [nw3 hm hf]
 exact zVp A n c me k w B hk (by omega) (by omega) (Decidable.not_not.1 hf)
end Go.Proofs.YtnpphdaakookcaaDoor
