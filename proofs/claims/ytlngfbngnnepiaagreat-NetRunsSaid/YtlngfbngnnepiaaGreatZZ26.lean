/- Part 26: words and walks under the laws of the whole. -/
import Derived.Test.YtlngfbngnnepiaaGreatZZ22
import Derived.Test.YtlngfbngnnepiaaGreatZZ24
import Derived.Test.YtlngfbngnnepiaaGreatZZ25
set_option linter.unusedVariables false
set_option linter.unusedSimpArgs false
set_option maxHeartbeats 4000000
set_option maxRecDepth 100000
namespace Go.Proofs.YtlngfbngnnepiaaGreat
open Go.RowKit Go.ChangeShapes Go.WideShapes Go.ChangeAt
structure BestI (w:World) (A:Option Addr) (n c:Nat) (k:Scu.Kept) (wr:World):Prop where
 best:Blk wr (w.heap.size+1) 42 #[.int .i64 k.view,.int .i64 k.normal,.bool k.calm,.slice A n c,.int .i64 k.commit]
 own:OwnStrs wr w.heap.size (.slice A n c) k.log
 zero:Blk wr w.heap.size 42 #[.int .i64 0,.int .i64 0,.bool false,.slice none 0 0,.int .i64 0]
 low:Below w.heap.size w wr
section
variable {w wr w':World} {A:Option Addr} {n c:Nat} {k:Scu.Kept}
theorem BestI.below (h:BestI w A n c k wr) (hb:Below wr.heap.size wr w'):BestI w A n c k w' :=
 ⟨h.best.same hb,h.own.below hb,h.zero.same hb,h.low.trans (hb.mono h.low.size)⟩
theorem BestI.alloc (h:BestI w A n c k wr) (o:Obj):BestI w A n c k (wr.alloc o):=h.below (zAa wr o)
theorem BestI.next (h:BestI w A n c k wr) {A':Option Addr} {n' c':Nat} {k':Scu.Kept} (ho:OwnStrs wr w.heap.size (.slice A' n' c') k'.log) :
 BestI w A' n' c' k' (((((wr.setCell ⟨w.heap.size+1,0,none⟩ (.int .i64 k'.view)).setCell ⟨w.heap.size+1,1,none⟩ (.int .i64 k'.normal)).setCell ⟨w.heap.size+1,2,none⟩ (.bool k'.calm)).setCell ⟨w.heap.size+1,3,none⟩ (.slice A' n' c')).setCell ⟨w.heap.size+1,4,none⟩ (.int .i64 k'.commit)):=by
 refine ⟨((((h.best.set_ 0 _).set_ 1 _).set_ 2 _).set_ 3 _).set_ 4 _,ho.same (Same.sets5 (B:=0) h.best (mE _) (by decide) _ _ _ _ _),?_,zAn h.low (Nat.le_succ _)⟩;exact ((((h.zero.far (by simp) _).far (by simp) _).far (by simp) _).far (by simp) _).far (by simp) _
end
theorem zZ3 {P:Prop} (h:P:=by
 go_wp2
 refine ⟨⟨j+1,kq,gq,aq,A',n',c',by omega,by go_num,rfl,rfl,HX,Hg.out⟩,?_⟩;simp [intOf];omega):P:=h
theorem zKr (v:Value) (l:List Scu.Str) (w:World) (B:Nat) (hv:IsStrs w B v l) :
 Calls Tryz.prog 68 #[v] w fun e w'=>LoadRet w' w.heap.size (Scu.load l) e/\Below w.heap.size w w':=by
 obtain ⟨⟨A,c,rfl,_,hr⟩,hl,he⟩:=hv;unfold R47 at hl;by_cases h2:l.length=2
 ·have Ho:(l.length:Int)=2:=by omega
  have hb:((l.length:Int) != 2)=false:=by simpa using Ho
  have Hm:=mA (Scu.load_best h2);clear he h2;go_enter Tryz.func68,Tryz.ntmps68
  go_wp2_with fail
  go_loopw [7,8,9] (fun gv av i wr=>∃ (j:Nat) (kq:Scu.Kept) (gq aq:Int) (A':Option Addr) (n' c':Nat),j<=2/\i=.int .i64 j/\gv=.int .i64 gq/\av=.int .i64 aq/\Hid (Scu.bestJ l j=(kq,gq,aq))/\BestI w A' n' c' kq wr) (fun _ _ i _=>2 - (intOf i).toNat)
  case atStart =>
   exact ⟨0,Scu.kept0,-1,0,none,0,0,by omega,rfl,rfl,rfl,mA rfl,Blk.new' (by simp),OwnStrs.nil_,(Blk.new w _ _).alloc _,(zAa w _).alloc (by simp) _⟩
  case round =>
   obtain ⟨j,kq,gq,aq,A',n',c',hj,rfl,rfl,rfl,hq,hB⟩:=hrel;by_cases hlt:j < 2
   ·have Hi:(j:Int) < 2:=by omega
    have Hn:j < l.length:=by omega
    have Hp:(j:Int) < (l.length:Int):=by omega
    obtain ⟨g,o,rfl,hg,Hv⟩:=zBz (hr.below hB.low) Hn;generalize hd:Scu.stageDecode l[j]=q;obtain ⟨k,gn,e⟩:=q;have hn:=Scu.bestJ_next Hn hd;rw [hq.out] at hn;simp only at hn
    have HN:=mA hn;have HD:=mA (fun W=>zTz _ W k gn e hd);have Hb:=mA hB;clear hB hd hn hq;go_wp2_with fail
    refine (HD.out _).mono ?_;rintro en w2 ⟨⟨lv,rfl,hu⟩,h2⟩;obtain ⟨A1,n1,c1,rfl⟩:=hu.form;have Hq:=Hb.out.low.size;have Hj:=Hb.out.below h2;have Hr:w.heap.size+1 < w2.heap.size:=Hj.best.lt;go_upto_region 10 with fail
    obtain ⟨Wd,He⟩:=mJ (w2.alloc (.cells #[.int .i64 k.view,.int .i64 k.normal,.bool k.calm,.slice A1 n1 c1,.int .i64 k.commit] 42));rw [<- He];have Hk:Below w2.heap.size w2 Wd:=by rw [He];exact zAa _ _
    have Hf:Blk Wd w2.heap.size 42 #[.int .i64 k.view,.int .i64 k.normal,.bool k.calm,.slice A1 n1 c1,.int .i64 k.commit]:=by rw [He];exact Blk.new _ _ _
    have Hg:=mA (Hj.below Hk);have HU:=mA ((hu.below Hk).base_ Hq);have Ha:=Hg.out.best;obtain ⟨bc0,bc1,bc2,bc3,bc4⟩:=cz5 Ha;have bcz:=Ha.frozen;obtain ⟨kd0,kd1,kd2,kd3,kd4⟩:=cz5 Hf;have kdz:=Hf.frozen;have Hs:=Ha.lt;have Ht:=Hf.lt;clear Ha Hf Hj hu h2 Hk He;by_cases Hh:e=0
    ·subst Hh;by_cases Hl:gq < gn
     ·have HX:=mA (show Scu.bestJ l (j+1)=(k,gn,(j:Int)) by rw [HN.out,if_pos ⟨rfl,Hl⟩]);clear HN;go_wp2
      refine ⟨⟨j+1,k,gn,j,A1,n1,c1,by omega,by go_num,rfl,rfl,HX,Hg.out.next HU.out⟩,?_⟩;simp [intOf];omega
     have Hw:gn<=gq:=by omega
     have HX:=mA (show Scu.bestJ l (j+1)=(kq,gq,aq) by rw [HN.out,if_neg (by rintro ⟨_,h⟩;exact Hl h)]);clear HN Hl;exact zZ3
    have Hx:(e == 0)=false:=by simpa using Hh
    have HX:=mA (show Scu.bestJ l (j+1)=(kq,gq,aq) by rw [HN.out,if_neg (by rintro ⟨h,_⟩;exact Hh h)]);clear HN Hh;exact zZ3
   have Hi:(2:Int)<=(j:Int):=by omega
   obtain rfl:j=2:=by omega
   have Hd:=Hm.out;rw [hq.out] at Hd;simp only at Hd
   have Ha:=hB.best;obtain ⟨bc0,bc1,bc2,bc3,bc4⟩:=cz5 Ha;have bcz:=Ha.frozen;have hz:=hB.zero;obtain ⟨zc0,zc1,zc2,zc3,zc4⟩:=cz5 hz;have zcz:=hz.frozen;have Hs:=Ha.lt;have Ht:=hz.lt;have Hb:=mA hB;clear Ha hz hB Hm hq;by_cases Hc:gq < 0
   ·have HF:=mA (show Scu.load l=(Scu.kept0,0,0,13) by rw [Hd,if_pos Hc]);clear Hd;go_wp2
    refine bodyPost_ret (v:=.tuple #[.agg #[.int .i64 0,.int .i64 0,.bool false,.slice none 0 0,.int .i64 0],.int .i64 0,.int .i64 0,.int .i64 13]) (by simp [results,Tryz.results68,go_sem,zc0,zc1,zc2,zc3,zc4]) rfl ?_;exact ⟨by rw [HF.out];exact zHh _ _ _,zAn Hb.out.low (mC _)⟩
   have Hu:0<=gq:=by omega
   have HF:=mA (show Scu.load l=(kq,gq,aq,0) by rw [Hd,if_neg Hc]);clear Hd Hc;go_wp2
   refine bodyPost_ret (v:=.tuple #[.agg #[.int .i64 kq.view,.int .i64 kq.normal,.bool kq.calm,.slice A' n' c',.int .i64 kq.commit],.int .i64 gq,.int .i64 aq,.int .i64 0]) (by simp [results,Tryz.results68,go_sem,zc0,zc1,zc2,zc3,zc4]) rfl ?_;refine ⟨?_,zAn Hb.out.low (mC _)⟩;rw [HF.out];exact ⟨_,rfl,Hb.out.own.same (Same.sets5 (B:=0) Hb.out.zero (mE _) (by decide) _ _ _ _ _)⟩
 rw [Scu.load_len h2];have hb:((l.length:Int) != 2)=true:=by simpa using (show ¬ (l.length:Int)=2 by omega)
 clear h2 hr he;go_enter Tryz.func68,Tryz.ntmps68
 go_wp2
 go_returns
 exact ⟨zHh _ _ _,(mG _ _).alloc (mC _) _⟩
section
variable {H:Type} {enc:TypeId × Value->H} {w:World} {base:Nat} {spare:Nat->Bool} {held:Bool}
end
theorem zBx (v:Value) (l:List Scu.Str) (w:World) (B:Nat) (hv:IsStrs w B v l) (k:Scu.Kept) (g a e:Int) (h:Scu.load l=(k,g,a,e)) :
 Calls Tryz.prog 83 #[v] w fun en w'=>LoadRet w' w.heap.size (k,g,a,e) en/\Below w.heap.size w w':=by
 have:=zJo v l w B hv;rw [h] at this;exact this
theorem zCf (v:Value) (l:List Scu.Str) (w:World) (B:Nat) (hv:IsStrs w B v l) (k:Scu.Kept) (g a e:Int) (h:Scu.load l=(k,g,a,e)) :
 Calls Tryz.prog 68 #[v] w fun en w'=>LoadRet w' w.heap.size (k,g,a,e) en/\Below w.heap.size w w':=by
 have:=zKr v l w B hv;rw [h] at this;exact this
open Go.RowKit
theorem zDg {X:World} {g i:Nat} {cs:Array Value} (h:Blk X g 47 cs) (u:Value) (o:Obj) :
 Same [9,3,4,42,99] 0 X ((X.setCell ⟨g,i,none⟩ u).alloc o)/\∀ B,B<=g->Below B X ((X.setCell ⟨g,i,none⟩ u).alloc o) :=
 ⟨(Same.set_ h (mE _) (by decide) i u).trans (Same.alloc _ _),fun B hB=>((mG B X).setCell (p:=⟨g,i,none⟩) hB u).alloc (by have:=h.lt;simp [World.setCell];omega) o⟩
def ForgO (w w':World) (hv wv gv nv:Value):Prop:=∃ a b c d,hv=.slice (some ⟨a,0,none⟩) 3 3/\wv=.slice (some ⟨b,0,none⟩) 3 3/\gv=.slice (some ⟨c,0,none⟩) 3 3/\nv=.slice (some ⟨d,0,none⟩) 3 3/\w.heap.size<=a/\w.heap.size<=b/\w.heap.size<=c/\w.heap.size<=d/\b≠d /\
 Blk w' a 3 #[.int .i64 0,.int .i64 0,.int .i64 0]/\Blk w' b 4 #[.bool false,.bool false,.bool false] /\
 Blk w' c 42 #[.int .i64 0,.int .i64 0,.bool false,.slice none 0 0,.int .i64 0,.int .i64 0,.int .i64 0,.bool false,.slice none 0 0,.int .i64 0,.int .i64 0,.int .i64 0,.bool false,.slice none 0 0,.int .i64 0]/\Blk w' d 4 #[.bool false,.bool false,.bool false]
theorem zEq {w w':World} {g:Nat} {t:TypeId} {cs:Array Value} {Ts:List TypeId} (h:Blk w g t cs) (hs:Same Ts 0 w w') (ht:t ∈ Ts):Blk w' g t cs:=(hs.keep g h.lt (.inr ⟨_,_,_,ht,h⟩)).trans h
theorem zFd (g:Nat) (v0 v1 v2 v3 v4 v5 v6 v7 v8 v9:Value) (w:World) (hb:Blk w g 47 #[v0,v1,v2,v3,v4,v5,v6,v7,v8,v9]) :
 Calls Tryz.prog 31 #[.pointer (some ⟨g,0,none⟩)] w fun e w'=>e=.returned (.tuple #[])/\(∃ hv wv gv nv,Blk w' g 47 #[v0,v1,v2,v3,v4,v5,hv,wv,gv,nv]/\IsOnes 3 8 vInt w' 0 hv [0,0,0]/\IsOnes 4 1 Value.bool w' 0 wv [false,false,false] /\
  IsRow 42 5 56 KeptEl w' 0 gv [Scu.kept0,Scu.kept0,Scu.kept0]/\IsOnes 4 1 Value.bool w' 0 nv [false,false,false]/\ForgO w w' hv wv gv nv)/\Same [9,3,4,42,99] 0 w w'/\(∀ B,B<=g->Below B w w'):=by
 have Hy:=zMv;have Hz:=zKp;have Ka:=zKq;go_enter Tryz.func31,Tryz.ntmps31
 obtain ⟨-,-,-,-,-,-,z0⟩:=cz7 hb;have zz0:=hb.frozen;have zl0:=hb.lt;have Hm:=mA hb;clear hb;go_upto_region 1 with fail
 obtain ⟨y1,Hb⟩:=mJ ((w.setCell ⟨g,6,none⟩ (.slice (some ⟨w.heap.size,0,none⟩) 3 3)).alloc (.cells #[.int .i64 0,.int .i64 0,.int .i64 0] 3));rw [<- Hb];have Hf:Blk y1 g 47 #[v0,v1,v2,v3,v4,v5,(.slice (some ⟨w.heap.size,0,none⟩) 3 3),v7,v8,v9]:=by rw [Hb];exact (Hm.out.set_ 6 _).alloc _
 have Hg:Blk y1 w.heap.size 3 #[.int .i64 0,.int .i64 0,.int .i64 0]:=by rw [Hb];exact Blk.new' (by simp [World.setCell])
 have Hs:Same [9,3,4,42,99] 0 w y1:=by rw [Hb];exact (zDg Hm.out _ _).1
 have Ht:∀ B,B<=g->Below B w y1:=by rw [Hb];exact (zDg Hm.out _ _).2
 have r1:=zGc (bytes:=8) (f:=vInt) (xs:=[(0:Int),0,0]) Hg (by simp [R47]);clear z0 zz0 zl0 Hb;obtain ⟨-,-,-,-,-,-,-,z1⟩:=cz8 Hf;have zz1:=Hf.frozen;have zl1:=Hf.lt;have Hn:=mA Hf;clear Hf;go_upto_region 2 with fail
 obtain ⟨y2,Hc⟩:=mJ ((y1.setCell ⟨g,7,none⟩ (.slice (some ⟨y1.heap.size,0,none⟩) 3 3)).alloc (.cells #[.bool false,.bool false,.bool false] 4));rw [<- Hc];have Hh:Blk y2 g 47 #[v0,v1,v2,v3,v4,v5,(.slice (some ⟨w.heap.size,0,none⟩) 3 3),(.slice (some ⟨y1.heap.size,0,none⟩) 3 3),v8,v9]:=by rw [Hc];exact (Hn.out.set_ 7 _).alloc _
 have Hi:Blk y2 y1.heap.size 4 #[.bool false,.bool false,.bool false]:=by rw [Hc];exact Blk.new' (by simp [World.setCell])
 have Ho:Same [9,3,4,42,99] 0 y1 y2:=by rw [Hc];exact (zDg Hn.out _ _).1
 have Hu:∀ B,B<=g->Below B y1 y2:=by rw [Hc];exact (zDg Hn.out _ _).2
 have r2:=zGc (bytes:=1) (f:=Value.bool) (xs:=[false,false,false]) Hi (by simp [R47]);clear z1 zz1 zl1 Hc;obtain ⟨-,-,-,-,-,-,-,-,z2⟩:=cz9 Hh;have zz2:=Hh.frozen;have zl2:=Hh.lt;have Hp:=mA Hh;clear Hh;go_upto_region 3 with fail
 obtain ⟨y3,Hd⟩:=mJ ((y2.setCell ⟨g,8,none⟩ (.slice (some ⟨y2.heap.size,0,none⟩) 3 3)).alloc (.cells #[.int .i64 0,.int .i64 0,.bool false,.slice none 0 0,.int .i64 0,.int .i64 0,.int .i64 0,.bool false,.slice none 0 0,.int .i64 0,.int .i64 0,.int .i64 0,.bool false,.slice none 0 0,.int .i64 0] 42));rw [<- Hd];have Hj:Blk y3 g 47 #[v0,v1,v2,v3,v4,v5,(.slice (some ⟨w.heap.size,0,none⟩) 3 3),(.slice (some ⟨y1.heap.size,0,none⟩) 3 3),(.slice (some ⟨y2.heap.size,0,none⟩) 3 3),v9]:=by rw [Hd];exact (Hp.out.set_ 8 _).alloc _
 have Hl:Blk y3 y2.heap.size 42 #[.int .i64 0,.int .i64 0,.bool false,.slice none 0 0,.int .i64 0,.int .i64 0,.int .i64 0,.bool false,.slice none 0 0,.int .i64 0,.int .i64 0,.int .i64 0,.bool false,.slice none 0 0,.int .i64 0]:=by rw [Hd];exact Blk.new' (by simp [World.setCell])
 have Hk:Same [9,3,4,42,99] 0 y2 y3:=by rw [Hd];exact (zDg Hp.out _ _).1
 have Hv:∀ B,B<=g->Below B y2 y3:=by rw [Hd];exact (zDg Hp.out _ _).2
 have r3:=zMw Hl;clear z2 zz2 zl2 Hd;obtain ⟨-,-,-,-,-,-,-,-,-,z3⟩:=cz10 Hj;have zz3:=Hj.frozen;have zl3:=Hj.lt;have Hq:=mA Hj;clear Hj;go_wp2
 obtain ⟨y4,He⟩:=mJ ((y3.setCell ⟨g,9,none⟩ (.slice (some ⟨y3.heap.size,0,none⟩) 3 3)).alloc (.cells #[.bool false,.bool false,.bool false] 4));rw [<- He];have Hw:Blk y4 g 47 #[v0,v1,v2,v3,v4,v5,(.slice (some ⟨w.heap.size,0,none⟩) 3 3),(.slice (some ⟨y1.heap.size,0,none⟩) 3 3),(.slice (some ⟨y2.heap.size,0,none⟩) 3 3),(.slice (some ⟨y3.heap.size,0,none⟩) 3 3)]:=by rw [He];exact (Hq.out.set_ 9 _).alloc _
 have Hr:Blk y4 y3.heap.size 4 #[.bool false,.bool false,.bool false]:=by rw [He];exact Blk.new' (by simp [World.setCell])
 have Ha:Same [9,3,4,42,99] 0 y3 y4:=by rw [He];exact (zDg Hq.out _ _).1
 have Hx:∀ B,B<=g->Below B y3 y4:=by rw [He];exact (zDg Hq.out _ _).2
 have r4:=zGc (bytes:=1) (f:=Value.bool) (xs:=[false,false,false]) Hr (by simp [R47]);clear z3 zz3 zl3 He;go_end0
 refine ⟨rfl,⟨_,_,_,_,Hw,((r1.same (by simp) Ho).same (by simp) Hk).same (by simp) Ha,(r2.same (by simp) Hk).same (by simp) Ha,r3.same (by simp) Ha (fun _ _ hk=>hk.same (by simp) Ha),r4,⟨_,_,_,_,rfl,rfl,rfl,rfl,mC _,by have:=Hg.lt;omega,by have:=Hg.lt;have:=Hi.lt;omega,by have:=Hg.lt;have:=Hi.lt;have:=Hl.lt;omega,by have:=Hi.lt;have:=Hl.lt;omega,zEq (zEq (zEq Hg Ho (by simp)) Hk (by simp)) Ha (by simp),zEq (zEq Hi Hk (by simp)) Ha (by simp),zEq Hl Ha (by simp),Hr⟩⟩,((Hs.trans Ho).trans Hk).trans Ha,fun B hB=>(((Ht B hB).trans (Hu B hB)).trans (Hv B hB)).trans (Hx B hB)⟩
theorem zIh (lv:Value) (k:Scu.Kept) (w:World) (B:Nat) (hv:IsStrs w B lv k.log) (f:Int) (h:Scu.keptFault k=f) :
 Calls Tryz.prog 29 #[.agg #[.int .i64 k.view,.int .i64 k.normal,.bool k.calm,lv,.int .i64 k.commit]] w fun e w'=>e=.returned (.int .i64 f)/\Below w.heap.size w w':=by
 have:=zEz lv k w B hv;rw [h] at this;exact this
theorem zUf (A:Option Addr) (n c:Nat) (me:Int) (k:Scu.Kept) (w:World) (hm:me < 0\/3<=me) :
 Calls Tryz.prog 14 #[.int .i64 me,.agg #[.int .i64 k.view,.int .i64 k.normal,.bool k.calm,.slice A n c,.int .i64 k.commit]] w fun e w'=>NewRet w' Scu.replica0 2 e/\Below w.heap.size w w':=by
 have Ha:=mA (show inB me 0 2=false by simp only [inB,Bool.and_eq_false_iff,decide_eq_false_iff_not];omega);have hb:Below w.heap.size w ((w.alloc (.cells #[.int .i64 k.view,.int .i64 k.normal,.bool k.calm,.slice A n c,.int .i64 k.commit] 42)).alloc (.cells zR 47)):=(zAa w _).alloc (by simp) _;clear hm;go_enter Tryz.func14,Tryz.ntmps14
 go_wp2_with fail
 refine (zAt _ _ _ _).mono ?_;rintro en w' ⟨rfl,rfl⟩;rw [Ha.out];go_wp2
 refine bodyPost_ret (v:=.tuple #[.agg zR,.int .i64 2]) (by simp [results,Tryz.results14,go_sem]) rfl ?_;exact ⟨zIp _ _,hb⟩
theorem zUg (A:Option Addr) (n c:Nat) (me:Int) (k:Scu.Kept) (w:World) (B:Nat) (hk:IsStrs w B (.slice A n c) k.log) (Hc:0<=me) (hm:me < 3) (f:Int) (hf:Scu.keptFault k=f) (h0:f≠0) :
 Calls Tryz.prog 14 #[.int .i64 me,.agg #[.int .i64 k.view,.int .i64 k.normal,.bool k.calm,.slice A n c,.int .i64 k.commit]] w fun e w'=>NewRet w' Scu.replica0 f e/\Below w.heap.size w w':=by
 have Hb:=mA (show inB me 0 2=true by simp only [inB,Bool.and_eq_true,decide_eq_true_eq];omega);have HK:=mA hk;have HF:=mA hf;have Hd:(f != 0)=true:=by simpa using h0
 clear hk hf h0;go_enter Tryz.func14,Tryz.ntmps14
 go_wp2_with fail
 refine (zAt _ _ _ _).mono ?_;rintro en w' ⟨rfl,rfl⟩;rw [Hb.out];have Ha:Below w.heap.size w ((w.alloc (.cells #[.int .i64 k.view,.int .i64 k.normal,.bool k.calm,.slice A n c,.int .i64 k.commit] 42)).alloc (.cells zR 47)):=(zAa w _).alloc (by simp) _;go_wp2_with fail
 refine (zIh _ k _ B (HK.out.below Ha) f HF.out).mono ?_;rintro en w1 ⟨rfl,h1⟩;have hz:Blk w1 (w.heap.size+1) 47 zR:=(Blk.new' (by simp)).same h1;have hs:Blk w1 w.heap.size 42 #[.int .i64 k.view,.int .i64 k.normal,.bool k.calm,.slice A n c,.int .i64 k.commit]:=((Blk.new w _ _).alloc _).same h1;have hb:=Ha.trans (h1.mono Ha.size);clear h1 Ha;obtain ⟨z0,z1,z2,z3,z4,z5,z6,z7,z8,z9⟩:=cz10 hz;have zz:=hz.frozen;have zl:=hz.lt;have hr:=zAm (a0:=.int .i64 0) (a1:=.int .i64 0) (a2:=.int .i64 0) (a3:=.bool false) (a4:=.slice none 0 0) (a5:=.int .i64 0) (a6:=.slice none 0 0) (a7:=.slice none 0 0) (a8:=.slice none 0 0) (a9:=.slice none 0 0) hz;obtain ⟨r0,r1,r2,r3,r4,r5,r6,r7,r8,r9⟩:=cz10 hr;have rz:=hr.frozen;have rl:=hr.lt;clear hs;go_wp2
 refine bodyPost_ret (v:=.tuple #[.agg zR,.int .i64 f]) (by simp [results,Tryz.results14,go_sem,r0,r1,r2,r3,r4,r5,r6,r7,r8,r9]) rfl ?_;exact ⟨zIp _ _,zAh hb (by omega)⟩
theorem zUh (A:Option Addr) (n c:Nat) (me:Int) (k:Scu.Kept) (w:World) (B:Nat) (hk:IsStrs w B (.slice A n c) k.log) (Hm:0<=me) (hm:me < 3) (hf:Scu.keptFault k=0) :
 Calls Tryz.prog 14 #[.int .i64 me,.agg #[.int .i64 k.view,.int .i64 k.normal,.bool k.calm,.slice A n c,.int .i64 k.commit]] w fun e w'=>NewRet w' ⟨me,k,[0,0,0],[false,false,false],[Scu.kept0,Scu.kept0,Scu.kept0],[false,false,false]⟩ 0 e/\Below w.heap.size w w':=by
 have Hk:=mA (show inB me 0 2=true by simp only [inB,Bool.and_eq_true,decide_eq_true_eq];omega);have HK:=mA hk;have HF:=mA hf;clear hk hf;go_enter Tryz.func14,Tryz.ntmps14
 go_wp2_with fail
 refine (zAt _ _ _ _).mono ?_;rintro en w' ⟨rfl,rfl⟩;rw [Hk.out];have Hb:Below w.heap.size w ((w.alloc (.cells #[.int .i64 k.view,.int .i64 k.normal,.bool k.calm,.slice A n c,.int .i64 k.commit] 42)).alloc (.cells zR 47)):=(zAa w _).alloc (by simp) _;go_wp2_with fail
 refine (zIh _ k _ B (HK.out.below Hb) 0 HF.out).mono ?_;rintro en w1 ⟨rfl,h1⟩;have hz:Blk w1 (w.heap.size+1) 47 zR:=(Blk.new' (by simp)).same h1;have hs:Blk w1 w.heap.size 42 #[.int .i64 k.view,.int .i64 k.normal,.bool k.calm,.slice A n c,.int .i64 k.commit]:=((Blk.new w _ _).alloc _).same h1;have hb:=Hb.trans (h1.mono Hb.size);clear h1 Hb;obtain ⟨q0,q1,q2,q3,q4⟩:=cz5 hs;have ql:=hs.lt;have HZ:=mA hz;have HB:=mA hb;clear hs hz hb;go_wp2_with fail
 refine (zHr _ k _ B (HK.out.below HB.out)).mono ?_;rintro en w2 ⟨⟨lu,rfl,hu⟩,h2⟩;obtain ⟨A5,n5,c5,rfl⟩:=hu.form;go_upto_region 7 with fail
 obtain ⟨Wd,Hc⟩:=mJ (w2.alloc (.cells #[.int .i64 me,.int .i64 k.view,.int .i64 k.normal,.bool k.calm,.slice A5 n5 c5,.int .i64 k.commit,.slice none 0 0,.slice none 0 0,.slice none 0 0,.slice none 0 0] 47));rw [<- Hc];have Hd:Below w2.heap.size w2 Wd:=by rw [Hc];exact zAa _ _
 have hn:Blk Wd w2.heap.size 47 #[.int .i64 me,.int .i64 k.view,.int .i64 k.normal,.bool k.calm,.slice A5 n5 c5,.int .i64 k.commit,.slice none 0 0,.slice none 0 0,.slice none 0 0,.slice none 0 0]:=by rw [Hc];exact Blk.new _ _ _
 have Hf:=(HZ.out.same h2).same Hd;have Hg:=(HB.out.trans (h2.mono HB.out.size)).trans (Hd.mono (mD HB.out.size h2.size));have Hh:=hu.below Hd;have Hn:=h2.size;have HN:=mA hn;have Ho:=HZ.out.lt;clear h2 hu Hc hn q0 q1 q2 q3 q4 ql;go_wp2_with fail
 refine (zFd w2.heap.size _ _ _ _ _ _ _ _ _ _ Wd HN.out).mono ?_;rintro en w3 ⟨rfl,⟨hv,wv,gv,nv,hB,f1,f2,f3,f4,_⟩,Hi,He⟩;have hR:IsRep w3 0 (.slice A5 n5 c5) hv wv gv nv ⟨me,k,[0,0,0],[false,false,false],[Scu.kept0,Scu.kept0,Scu.kept0],[false,false,false]⟩:=⟨(Hh.same (Hi.mono (by simp) (mC _))).is,f1,f2,f3,f4⟩;have Ha:Blk w3 (w.heap.size+1) 47 zR:=Hf.below (He w2.heap.size (mC _)) (by omega);have Hj:=Hg.trans (He w.heap.size (by omega));obtain ⟨o0,o1,o2,o3,o4,o5,o6,o7,o8,o9⟩:=cz10 hB;have oz:=hB.frozen;have ol:=hB.lt;obtain ⟨z0,z1,z2,z3,z4,z5,z6,z7,z8,z9⟩:=cz10 Ha;have zz:=Ha.frozen;have zl:=Ha.lt;have hr:=zAm (a0:=.int .i64 me) (a1:=.int .i64 k.view) (a2:=.int .i64 k.normal) (a3:=.bool k.calm) (a4:=.slice A5 n5 c5) (a5:=.int .i64 k.commit) (a6:=hv) (a7:=wv) (a8:=gv) (a9:=nv) Ha;obtain ⟨r0,r1,r2,r3,r4,r5,r6,r7,r8,r9⟩:=cz10 hr;have rz:=hr.frozen;have rl:=hr.lt;have HR:=mA (hR.same (Same.sets10 (a0:=.int .i64 me) (a1:=.int .i64 k.view) (a2:=.int .i64 k.normal) (a3:=.bool k.calm) (a4:=.slice A5 n5 c5) (a5:=.int .i64 k.commit) (a6:=hv) (a7:=wv) (a8:=gv) (a9:=nv) Ha (mE _) (by decide)));have Hl:=mA (zAh (a0:=.int .i64 me) (a1:=.int .i64 k.view) (a2:=.int .i64 k.normal) (a3:=.bool k.calm) (a4:=.slice A5 n5 c5) (a5:=.int .i64 k.commit) (a6:=hv) (a7:=wv) (a8:=gv) (a9:=nv) Hj (Nat.le_succ w.heap.size));obtain ⟨A6,n6,c6,rfl⟩:=f1.form;obtain ⟨A7,n7,c7,rfl⟩:=f2.form;obtain ⟨A8,n8,c8,rfl⟩:=f3.form;obtain ⟨A9,n9,c9,rfl⟩:=f4.form;clear f1 f2 f3 f4 hR Ha Hj hr hB Hi He Hf Hg Hh HN Hd;go_wp2
 refine bodyPost_ret (v:=.tuple #[.agg #[.int .i64 me,.int .i64 k.view,.int .i64 k.normal,.bool k.calm,.slice A5 n5 c5,.int .i64 k.commit,.slice A6 n6 c6,.slice A7 n7 c7,.slice A8 n8 c8,.slice A9 n9 c9],.int .i64 0]) (by simp [results,Tryz.results14,go_sem,r0,r1,r2,r3,r4,r5,r6,r7,r8,r9]) rfl ?_;exact ⟨⟨_,_,_,_,_,rfl,HR.out⟩,Hl.out⟩
theorem zUi (lv:Value) (me:Int) (k:Scu.Kept) (w:World) (B:Nat) (hk:IsStrs w B lv k.log) :
 Calls Tryz.prog 14 #[.int .i64 me,.agg #[.int .i64 k.view,.int .i64 k.normal,.bool k.calm,lv,.int .i64 k.commit]] w fun e w'=>NewRet w' (Scu.repNew me k).1 (Scu.repNew me k).2 e/\Below w.heap.size w w':=by
 obtain ⟨A,n,c,rfl⟩:=hk.form;by_cases hm:me < 0\/3<=me
 ·rw [nw1 hm];exact zUf A n c me k w hm
 by_cases hf:Scu.keptFault k≠0
 ·rw [nw2 hm hf];exact zUg A n c me k w B hk (by omega) (by omega) _ rfl hf
 rw [nw3 hm hf];exact zUh A n c me k w B hk (by omega) (by omega) (Decidable.not_not.1 hf)
abbrev fLoad:Bool->FuncId
 | false=>83
 | true=>68
abbrev fNew:Bool->FuncId
 | false=>8
 | true=>14
abbrev fCrash:Bool->FuncId
 | false=>52
 | true=>38
theorem zWa (s:Bool) (v:Value) (l:List Scu.Str) (w:World) (B:Nat) (hv:IsStrs w B v l) (k:Scu.Kept) (g a e:Int) (h:Scu.load l=(k,g,a,e)) :
 Calls Tryz.prog (fLoad s) #[v] w fun en w'=>(∃ Al nl cl,en=.returned (.tuple #[.agg #[.int .i64 k.view,.int .i64 k.normal,.bool k.calm,.slice Al nl cl,.int .i64 k.commit],.int .i64 g,.int .i64 a,.int .i64 e])/\IsStrs w' 0 (.slice Al nl cl) k.log)/\Below w.heap.size w w':=by
 have:Calls Tryz.prog (fLoad s) #[v] w fun e w'=>LoadRet w' w.heap.size (Scu.load l) e/\Below w.heap.size w w':=by
  cases s
  ·exact zJo v l w B hv
  exact zKr v l w B hv
 rw [h] at this;refine this.mono ?_;rintro en w' ⟨⟨lv,rfl,ho⟩,hb⟩;obtain ⟨A,n,c,e'⟩:=ho.is.form;dsimp only at e' ho ⊢
 subst e';exact ⟨⟨_,_,_,rfl,ho.is⟩,hb⟩
theorem zIq (s:Bool) (A:Option Addr) (n c:Nat) (me:Int) (k:Scu.Kept) (w:World) (B:Nat) (hk:IsStrs w B (.slice A n c) k.log) (rr:Scu.Replica) (f:Int) (h:Scu.repNew me k=(rr,f)) :
 Calls Tryz.prog (fNew s) #[.int .i64 me,.agg #[.int .i64 k.view,.int .i64 k.normal,.bool k.calm,.slice A n c,.int .i64 k.commit]] w fun e w'=>(∃ lu hv wv gv nv,e=.returned (.tuple #[.agg #[.int .i64 rr.me,.int .i64 rr.kept.view,.int .i64 rr.kept.normal,.bool rr.kept.calm,lu,.int .i64 rr.kept.commit,hv,wv,gv,nv],.int .i64 f])/\IsRep w' 0 lu hv wv gv nv rr)/\Below w.heap.size w w':=by
 have:Calls Tryz.prog (fNew s) #[.int .i64 me,.agg #[.int .i64 k.view,.int .i64 k.normal,.bool k.calm,.slice A n c,.int .i64 k.commit]] w fun e w'=>NewRet w' (Scu.repNew me k).1 (Scu.repNew me k).2 e/\Below w.heap.size w w':=by
  cases s
  ·exact zUe (.slice A n c) me k w B hk
  exact zUi (.slice A n c) me k w B hk
 rw [h] at this;exact this
theorem zJp {r:Scu.Replica} {w:World} {B:Nat} {lu hv wv gv nv:Value} (h:IsRep w B lu hv wv gv nv r):∀ v ∈ repV r lu hv wv gv nv,v.oneCell'=true:=by
 obtain ⟨A0,n0,c0,A1,c1,A2,c2,A3,c3,A4,c4,rfl,rfl,rfl,rfl,rfl⟩:=h.forms;intro v hv;simp only [repV,List.mem_cons,List.not_mem_nil,or_false] at hv
 rcases hv with rfl | rfl | rfl | rfl | rfl | rfl | rfl | rfl | rfl | rfl <;> rfl
theorem zAx {w:World} {g i:Nat} {q:Addr} (h:q.block≠g) {u:Value} : (w.setCell ⟨g,i,none⟩ u).cell? q=w.cell? q:=World.cell?_of_block (Below.heap_setCell w ⟨g,i,none⟩ u q.block h)
theorem zSa {w:World} {g:Nat} {q:Addr} (h:q.block≠g) {o0 o1 o2 o3 o4 o5 o6 o7 o8 o9:Nat} {x0 x1 x2 x3 x4 x5 x6 x7 x8 x9:Value} : ((((((((((w.setCell ⟨g,o0,none⟩ x0).setCell ⟨g,o1,none⟩ x1).setCell ⟨g,o2,none⟩ x2).setCell ⟨g,o3,none⟩ x3).setCell ⟨g,o4,none⟩ x4).setCell ⟨g,o5,none⟩ x5).setCell ⟨g,o6,none⟩ x6).setCell ⟨g,o7,none⟩ x7).setCell ⟨g,o8,none⟩ x8).setCell ⟨g,o9,none⟩ x9).cell? q=w.cell? q:=by
 rw [zAx h,zAx h,zAx h,zAx h,zAx h,zAx h,zAx h,zAx h,zAx h,zAx h]
theorem zSb {W:World} {g o:Nat} (h:W.there g o 10):∃ u0 u1 u2 u3 u4 u5 u6 u7 u8 u9,(W.cell? ⟨g,o,none⟩=some u0/\W.cell? ⟨g,o+1,none⟩=some u1/\W.cell? ⟨g,o+2,none⟩=some u2/\W.cell? ⟨g,o+3,none⟩=some u3/\W.cell? ⟨g,o+4,none⟩=some u4/\W.cell? ⟨g,o+5,none⟩=some u5/\W.cell? ⟨g,o+6,none⟩=some u6/\W.cell? ⟨g,o+7,none⟩=some u7/\W.cell? ⟨g,o+8,none⟩=some u8/\W.cell? ⟨g,o+9,none⟩=some u9)/\(W.frozen? ⟨g,o,none⟩=false/\W.frozen? ⟨g,o+1,none⟩=false/\W.frozen? ⟨g,o+2,none⟩=false/\W.frozen? ⟨g,o+3,none⟩=false/\W.frozen? ⟨g,o+4,none⟩=false/\W.frozen? ⟨g,o+5,none⟩=false/\W.frozen? ⟨g,o+6,none⟩=false/\W.frozen? ⟨g,o+7,none⟩=false/\W.frozen? ⟨g,o+8,none⟩=false/\W.frozen? ⟨g,o+9,none⟩=false):=by
 have hs:=fun j hj=>Option.isSome_iff_exists.1 (h j hj).1
 obtain ⟨u0,h0⟩:=hs 0 (by decide);obtain ⟨u1,h1⟩:=hs 1 (by decide);obtain ⟨u2,h2⟩:=hs 2 (by decide);obtain ⟨u3,h3⟩:=hs 3 (by decide);obtain ⟨u4,h4⟩:=hs 4 (by decide);obtain ⟨u5,h5⟩:=hs 5 (by decide);obtain ⟨u6,h6⟩:=hs 6 (by decide);obtain ⟨u7,h7⟩:=hs 7 (by decide);obtain ⟨u8,h8⟩:=hs 8 (by decide);obtain ⟨u9,h9⟩:=hs 9 (by decide);exact ⟨u0,u1,u2,u3,u4,u5,u6,u7,u8,u9,⟨h0,h1,h2,h3,h4,h5,h6,h7,h8,h9⟩,(h 0 (by decide)).2,(h 1 (by decide)).2,(h 2 (by decide)).2,(h 3 (by decide)).2,(h 4 (by decide)).2,(h 5 (by decide)).2,(h 6 (by decide)).2,(h 7 (by decide)).2,(h 8 (by decide)).2,(h 9 (by decide)).2⟩
theorem zSc (s:Bool) (r:Nat) (w:World) (base gx:Nat) (x:Scu.Net) (rv sv fv cv tv:Value) (hN:NetG s w base gx x rv sv fv cv tv) (hb:base<=w.heap.size) (hr:r < x.replicas.length) (hs:r < x.slots.length) (Hk:x.replicas.length=3) (y:Scu.Net) (f:Int) (hy:Scu.crash x r=(y,f)) :
 Calls Tryz.prog (fCrash s) #[.pointer (some ⟨gx,0,none⟩),.int .i64 r] w fun e w'=>e=.returned (.int .i64 f)/\NetGE s w' base gx y/\Fr base w w':=by
 obtain ⟨B0,e0,B1,e1,B2,e2,B3,e3,B4,e4,rfl,rfl,rfl,rfl,rfl⟩:=hN.forms;obtain ⟨gs,cs,u,es,Ht,Hu,hu,Hq,-,-⟩:=hN.slotAt hs;obtain ⟨rfl,rfl⟩:=slq es;obtain ⟨Au,nu,cu,rfl⟩:=hu.form;obtain ⟨-,d1,-⟩:=cz3 hN.box;have dl:=hN.box.lt;obtain ⟨q,hq⟩:=mK (Scu.load x.slots[r]);obtain ⟨k,g0,a0,er⟩:=q;have Hl:Scu.crash x r=if er≠0 then (x,er) else ({ x with replicas:=x.replicas.set r (Scu.repNew r k).1 },(Scu.repNew r k).2):=by
  unfold Scu.crash;rw [mI,mH hs,Option.getD_some,hq]
 rw [Hl] at hy;have Hv:(r:Int) < (x.slots.length:Int):=by omega
 have HN:=mA hN;have HU:=mA hu;have HQ:=mA hq;have HY:=mA hy;have Hw:=mA Hk;clear hN hu hq hy es Hl Hk;cases s
 case' false =>
  change Calls Tryz.prog 52 _ _ _;go_enter Tryz.func52,Tryz.ntmps52
 case' true =>
  change Calls Tryz.prog 38 _ _ _;go_enter Tryz.func38,Tryz.ntmps38
 all_goals
  go_wp2_with fail
  first
  | refine (zWa false _ _ w 0 HU.out k g0 a0 er HQ.out).mono ?_
  | refine (zWa true _ _ w 0 HU.out k g0 a0 er HQ.out).mono ?_
  rintro en w1 ⟨⟨Al,nl,cl,rfl,hl⟩,h1⟩;go_upto_region 2 with fail
  obtain ⟨Wd,Hd⟩:=mJ (w1.alloc (.cells #[.int .i64 k.view,.int .i64 k.normal,.bool k.calm,.slice Al nl cl,.int .i64 k.commit] 42));rw [<- Hd];have He:Below w1.heap.size w1 Wd:=by rw [Hd];exact zAa _ _
  have hn:Blk Wd w1.heap.size 42 #[.int .i64 k.view,.int .i64 k.normal,.bool k.calm,.slice Al nl cl,.int .i64 k.commit]:=by rw [Hd];exact Blk.new _ _ _
  have Hf:=h1.trans (He.mono h1.size);have Hb:=mA (HN.out.below Hf);have HL:=mA (hl.below He);have Hg:=mA (Fr.of Hf hb);have HB:=mA hn;clear Hd He hn Hf h1 hl d1 Hq;by_cases he:er=0
  ·subst he;obtain ⟨nr,Hh⟩:=mK (Scu.repNew r k);obtain ⟨rr,fr⟩:=nr;have Hc:y = { x with replicas:=x.replicas.set r rr }/\f=fr:=by
    have h:=HY.out;rw [if_neg (by simp),Hh] at h;exact ⟨(Prod.mk.inj h).1.symm,(Prod.mk.inj h).2.symm⟩
   obtain ⟨gr,cr,lu0,Hx,wv0,gv0,nv0,er',Hy,Hm,-,-,Hn,curr,Hi⟩:=Hb.out.repAt hr;obtain ⟨rfl,rfl⟩:=slq er';have d0:=cz1 Hb.out.box;obtain ⟨q0,q1,q2,q3,q4⟩:=cz5 HB.out;have nxr:gx≠gr:=zAw Hb.out.box Hi (by decide);have nkr:w1.heap.size≠gr:=zAw HB.out Hi (by decide);clear Hi;have dl:=Hb.out.box.lt;have ql:=HB.out.lt;have Hz:(r:Int) < (x.replicas.length:Int):=by omega
   have Ho:=mA Hh;have Ha:=mA Hc;have Hr:=mA Hn;clear Hh Hc er' Hn;go_wp2_with fail
   go_region_held3 (fun w'=>w'.cell? ⟨gx,0,none⟩=some (.slice (some ⟨gr,0,none⟩) x.replicas.length e0)/\w'.cell? ⟨w1.heap.size,0,none⟩=some (.int .i64 k.view)/\w'.cell? ⟨w1.heap.size,1,none⟩=some (.int .i64 k.normal)/\w'.cell? ⟨w1.heap.size,2,none⟩=some (.bool k.calm)/\w'.cell? ⟨w1.heap.size,3,none⟩=some (.slice Al nl cl)/\w'.cell? ⟨w1.heap.size,4,none⟩=some (.int .i64 k.commit))
    (first | (go_split_ands;(try dsimp only);(repeat' apply mB) <;> first | (with_reducible assumption) | (with_reducible (refine (zSa ?_).trans ?_ <;> assumption))) | (go_split_ands;(try dsimp only);exact ⟨d0,q0,q1,q2,q3,q4⟩))
    (first
     | ((first | go_at_call 8 | go_at_call 14);(first | refine (zIq false Al nl cl r k _ 0 (HL.out.drewN 1) rr fr Ho.out).mono ?_ | refine (zIq true Al nl cl r k _ 0 (HL.out.drewN 1) rr fr Ho.out).mono ?_);rintro en x1 ⟨⟨lu,hv,wv,gv,nv,rfl,Hj⟩,k1'⟩
        obtain ⟨E0,m0,d0',E1,d1',E2,d2',E3,d3',E4,d4',rfl,rfl,rfl,rfl,rfl⟩:=Hj.forms;have nn1:Below Wd.heap.size Wd x1:=(below_drewN (mG _ _) 1).trans k1';have M1:=mA nn1;have Hs:=mA Hj;obtain ⟨u0,u1,u2,u3,u4,u5,u6,u7,u8,u9,⟨z0,z1,z2,z3,z4,z5,z6,z7,z8,z9⟩,f0,f1,f2,f3,f4,f5,f6,f7,f8,f9⟩:=zSb (zDr Hr.out nn1 Hm);have gl1:gr < x1.heap.size:=mF Hm nn1.size;have y0:=cW nn1 dl d0;have y1:=cW nn1 ql q0;have y2:=cW nn1 ql q1;have y3:=cW nn1 ql q2;have y4:=cW nn1 ql q3;have y5:=cW nn1 ql q4;clear nn1 k1' Hj))
   all_goals
    rename_i hHeld
    clear hHeld;have Hp:=Hb.out.below M1.out;obtain ⟨hP,hF⟩:=Hp.putRep hr (cs:=repV rr (.slice E0 m0 d0') (.slice E1 rr.have_.length d1') (.slice E2 rr.wants.length d2') (.slice E3 rr.gives.length d3') (.slice E4 rr.given.length d4')) (r:=rr) ⟨_,_,_,_,_,rfl,Hs.out⟩;have HP:=mA (mB hP.e (Hg.out.trans ((Fr.of M1.out (mD hb Hg.out.size)).trans hF)));clear Hp hP hF;go_wp2
    go_ret
    first
    | exact ⟨zAb (zAd Ha.out.2.symm),by rw [Ha.out.1];exact HP.out.1,HP.out.2⟩
    | exact ⟨zAb (zAd Ha.out.2.symm),by rw [Ha.out.1];exact HP.out.1.below (mG _ _).drew,HP.out.2.drew⟩
  ·have Ka:(er != 0)=true:=by simpa using he
   have Kb:(er == 0)=false:=by simpa using he
   have Hc:y=x/\f=er:=by
    have h:=HY.out;rw [if_pos he] at h;exact ⟨(Prod.mk.inj h).1.symm,(Prod.mk.inj h).2.symm⟩
   have Ha:=mA Hc;clear he Hc;go_wp2
   go_ret
   exact ⟨zAb (zAd Ha.out.2.symm),by rw [Ha.out.1];exact Hb.out.e,Hg.out⟩
end Go.Proofs.YtlngfbngnnepiaaGreat
