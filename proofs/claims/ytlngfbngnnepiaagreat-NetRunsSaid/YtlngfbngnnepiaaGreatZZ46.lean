/- Part 46: words and walks under the laws of the whole. -/
import Derived.Test.YtlngfbngnnepiaaGreatZZ42
import Derived.Test.YtlngfbngnnepiaaGreatZZ45
set_option linter.unusedVariables false
set_option linter.unusedSimpArgs false
set_option maxHeartbeats 4000000
set_option maxRecDepth 100000
namespace Go.Proofs.YtlngfbngnnepiaaGreat
open Go.RowKit
theorem by_c (s:Bool) (a:Scu.Act) (w:World) (base gx:Nat) (x:Scu.Net) (rv sv fv cv tv:Value) (hN:NetG s w base gx x rv sv fv cv tv) (hb:base<=w.heap.size) (n:Nat) (hC:Scu.Came n x) (hn:n<=900) (hk:a.kind=1\/a.kind=2\/a.kind=3) (y:Scu.Net) (f:Int) (hy:Scu.actBy x a=(y,f)):Calls Tryz.prog (fBy s) #[.pointer (some ⟨gx,0,none⟩),.agg #[.int .i64 a.kind,.int .i64 a.c,.int .i64 a.r,.int .i64 a.k,.int .i64 a.n,.int .i64 a.op.kind,.int .i64 a.op.at_,.int .i64 a.op.snap,.string a.op.data]] w fun e w'=>e=.returned (.int .i64 f)/\NetGE s w' base gx y/\Fr base w w':=by
 by_cases hr:a.c < 0\/(x.clients.length:Int)<=a.c
 ·exact by_1 s a w base gx x rv sv fv cv tv hN hb n hC hn hk y f hy (.inl hr)
 rcases id hk with h | h | h
 ·exact by_1 s a w base gx x rv sv fv cv tv hN hb n hC hn hk y f hy (.inr h)
 ·exact by_2 s a w base gx x rv sv fv cv tv hN hb n hC hn h hr y f hy
 exact by_3 s a w base gx x rv sv fv cv tv hN hb n hC hn h hr y f hy
theorem zZp (s:Bool) (a:Scu.Act) (w:World) (base gx:Nat) (x:Scu.Net) (rv sv fv cv tv:Value) (hN:NetG s w base gx x rv sv fv cv tv) (hb:base<=w.heap.size) (n:Nat) (hC:Scu.Came n x) (hn:n<=900) (hk:a.kind=6\/a.kind=7\/a.kind=8\/a.kind=10) (y:Scu.Net) (f:Int) (hy:Scu.actMessage x a=(y,f)):Calls Tryz.prog (fMsg s) #[.pointer (some ⟨gx,0,none⟩),.agg #[.int .i64 a.kind,.int .i64 a.c,.int .i64 a.r,.int .i64 a.k,.int .i64 a.n,.int .i64 a.op.kind,.int .i64 a.op.at_,.int .i64 a.op.snap,.string a.op.data]] w fun e w'=>e=.returned (.int .i64 f)/\NetGE s w' base gx y/\Fr base w w':=by
 by_cases hr:a.k < 0\/(x.flying.length:Int)<=a.k
 ·exact zZz s a w base gx x rv sv fv cv tv hN hb n hC hn hk hr y f hy
 rcases id hk with h | h | h | h
 ·exact zYf s a w base gx x rv sv fv cv tv hN hb n hC hn 6 (.inl rfl) h hr y f hy
 ·exact zYf s a w base gx x rv sv fv cv tv hN hb n hC hn 7 (.inr (.inl rfl)) h hr y f hy
 ·exact yAa s a w base gx x rv sv fv cv tv hN hb n hC hn h hr y f hy
 exact zYf s a w base gx x rv sv fv cv tv hN hb n hC hn 10 (.inr (.inr rfl)) h hr y f hy
theorem zYg {x:Scu.Net} {a:Scu.Act} {q:Scu.Net × Int} (hy:Scu.act x a=q):(a.kind=1\/a.kind=2\/a.kind=3)/\Scu.actBy x a=q\/(a.kind=4\/a.kind=5\/a.kind=9)/\Scu.actAt x a=q\/(a.kind=6\/a.kind=7\/a.kind=8\/a.kind=10)/\Scu.actMessage x a=q \/
 (∀ j:Int,1<=j->j<=10->(a.kind == j)=false)/\(x,3)=q:=by
 unfold Scu.act at hy;split at hy
 ·exact .inl ⟨by assumption,hy⟩
 split at hy
 ·exact .inr (.inl ⟨by assumption,hy⟩)
 split at hy
 ·exact .inr (.inr (.inl ⟨by assumption,hy⟩))
 exact .inr (.inr (.inr ⟨fun j _ _=>by rw [beq_eq_false_iff_ne];omega,hy⟩))
theorem zZq (s:Bool) (a:Scu.Act) (w:World) (base gx:Nat) (x:Scu.Net) (rv sv fv cv tv:Value) (hN:NetG s w base gx x rv sv fv cv tv) (hb:base<=w.heap.size) (n:Nat) (hC:Scu.Came n x) (hn:n<=900) (y:Scu.Net) (f:Int) (hy:Scu.act x a=(y,f)):Calls Tryz.prog (fAct s) #[.pointer (some ⟨gx,0,none⟩),.agg #[.int .i64 a.kind,.int .i64 a.c,.int .i64 a.r,.int .i64 a.k,.int .i64 a.n,.int .i64 a.op.kind,.int .i64 a.op.at_,.int .i64 a.op.snap,.string a.op.data]] w fun e w'=>e=.returned (.int .i64 f)/\NetGE s w' base gx y/\Fr base w w':=by
 have hw:=zYg hy;clear hy;rcases hw with ⟨h,hy⟩ | ⟨h,hy⟩ | ⟨h,hy⟩ | ⟨h,hy⟩;case inr.inr.inr =>
  have n1:=h 1 (by decide) (by decide);have n2:=h 2 (by decide) (by decide);have n3:=h 3 (by decide) (by decide);have n4:=h 4 (by decide) (by decide);have n5:=h 5 (by decide) (by decide);have n6:=h 6 (by decide) (by decide);have n7:=h 7 (by decide) (by decide);have n8:=h 8 (by decide) (by decide);have n9:=h 9 (by decide) (by decide);have n10:=h 10 (by decide) (by decide);have HE:=mA (pr2 hy);obtain ⟨B0,e0,B1,e1,B2,e2,B3,e3,B4,e4,rfl,rfl,rfl,rfl,rfl⟩:=hN.forms;have Ha:=zAa w (.cells (aN a) 57);have HS:=mA (show AcS s w (w.alloc (.cells (aN a) 57)) base gx x a _ _ _ _ _ from ⟨hN.below Ha,Blk.new w 57 (aN a),Fr.of Ha hb,hb⟩);have HC:=mA hC;clear h hy hN Ha hC;cases s
  case' false =>
   change Calls Tryz.prog 9 _ _ _;go_enter Tryz.func9,Tryz.ntmps9
  case' true =>
   change Calls Tryz.prog 15 _ _ _;go_enter Tryz.func15,Tryz.ntmps15
  all_goals
   go_upto_region 1 with fail
   obtain ⟨Wd,Hb⟩:=mJ (w.alloc (.cells (aN a) 57));rw [<- Hb] at HS ⊢;clear Hb;obtain ⟨a0,a1,a2,a3,a4,a5,a6,a7,a8⟩:=cz9 HS.out.ab;have al:=HS.out.ab.lt;obtain ⟨d0,d1,d2,d3,d4⟩:=cz5 HS.out.net.box;have dl:=HS.out.net.box.lt;go_wp2
   go_ret
   exact ⟨zAb (zAd HE.out.2.symm),by rw [HE.out.1];exact HS.out.net.e,HS.out.fr⟩
 all_goals
  cases s
  case true =>
   first
   | exact by_c true a w base gx x rv sv fv cv tv hN hb n hC hn h y f hy
   | exact at_c true a w base gx x rv sv fv cv tv hN hb n hC hn h y f hy
   | exact zZp true a w base gx x rv sv fv cv tv hN hb n hC hn h y f hy
 all_goals
  obtain ⟨s,hs⟩:=mK (false);rw [hs] at hN ⊢;obtain ⟨B0,e0,B1,e1,B2,e2,B3,e3,B4,e4,rfl,rfl,rfl,rfl,rfl⟩:=hN.forms;have Ha:=zAa w (.cells (aN a) 57);have HS:=mA (show AcS s w (w.alloc (.cells (aN a) 57)) base gx x a _ _ _ _ _ from ⟨hN.below Ha,Blk.new w 57 (aN a),Fr.of Ha hb,hb⟩);have HC:=mA hC;subst hs;have HY:=mA hy;have HH:=mA h;clear h hy hN Ha hC;change Calls Tryz.prog 9 _ _ _;go_enter Tryz.func9,Tryz.ntmps9
  go_upto_region 1 with fail
  obtain ⟨Wd,Hb⟩:=mJ (w.alloc (.cells (aN a) 57));rw [<- Hb] at HS ⊢;clear Hb;obtain ⟨a0,a1,a2,a3,a4,a5,a6,a7,a8⟩:=cz9 HS.out.ab;have al:=HS.out.ab.lt;obtain ⟨d0,d1,d2,d3,d4⟩:=cz5 HS.out.net.box;have dl:=HS.out.net.box.lt;have Hc:=mD hb HS.out.fr.size;have h:=HH.out
 all_goals
  first
  | (rcases (show _\/_\/_\/_ from h) with h | h | h | h)
  | (rcases h with h | h | h)
 all_goals
  have n1:=congrArg (· == (1:Int)) h;have n2:=congrArg (· == (2:Int)) h;have n3:=congrArg (· == (3:Int)) h;have n4:=congrArg (· == (4:Int)) h;have n5:=congrArg (· == (5:Int)) h;have n6:=congrArg (· == (6:Int)) h;have n7:=congrArg (· == (7:Int)) h;have n8:=congrArg (· == (8:Int)) h;have n9:=congrArg (· == (9:Int)) h;have n10:=congrArg (· == (10:Int)) h;simp only [Int.reduceBEq] at n1 n2 n3 n4 n5 n6 n7 n8 n9 n10
  clear h;go_wp2_with fail
  first
  | refine (by_c false a Wd base gx x _ _ _ _ _ HS.out.net Hc n HC.out hn HH.out y f HY.out).mono ?_
  | refine (at_c false a Wd base gx x _ _ _ _ _ HS.out.net Hc n HC.out hn HH.out y f HY.out).mono ?_
  | refine (zZp false a Wd base gx x _ _ _ _ _ HS.out.net Hc n HC.out hn HH.out y f HY.out).mono ?_
  rintro en w9 ⟨rfl,Hd,He⟩;have HT:=mA (mB Hd (HS.out.fr.trans He));clear Hd He;go_wp2
  go_ret
  exact ⟨zAb rfl,HT.out.1,HT.out.2⟩
abbrev fRun:Bool->FuncId
 | false=>4
 | true=>5
theorem RunG.keep {s:Bool} {w W7 W:World} {gq:Nat} {x:Scu.Net} {rv sv fv cv tv ov:Value} {codes:List Int} (h:RunG s w W7 gq x rv sv fv cv tv ov codes) (hs:Same [NT s,47,39,99,55,71,9,3,4,42,31] 0 W7 W):Blk W (w.heap.size+1) (NT s) #[rv,sv,fv,cv,tv]:=zAc h.net.box hs (by simp)
theorem RunG.start {s:Bool} {w W7:World} {gq:Nat} {x:Scu.Net} {rv sv fv cv tv ov:Value} {codes:List Int} (h:RunG s w W7 gq x rv sv fv cv tv ov codes):∃ orv osv,RunDG s w W7 W7 gq x.replicas x.slots 0 0 orv osv ov :=
 ⟨_,_,Same.refl _ _ _,h.res,h.out,⟨_,OwnR.nil_⟩,⟨_,OwnR.nil_⟩,h.low⟩
theorem yAb (s:Bool) (n:Nat) (v:Value) (l:List Scu.Act) (w:World) (h1:1<=n) (h4:n<=4) (hl:l.length<=300) (B:Nat) (hx:IsRow 57 9 80 ActE w B v l) (x:Scu.Net) (codes:List Int) (hy:Scu.steps (Scu.netNew n) l=(x,codes)) :
 Calls Tryz.prog (fRun s) #[.int .i64 n,v] w fun e w'=>(∃ rv sv fv cv tv ov,e=.returned (.tuple #[.agg #[rv,sv,fv,cv,tv,ov],.int .i64 0])/\OutW w' rv sv fv cv tv ov (Scu.outOf (x,codes)))/\Below w.heap.size w w':=by
 obtain ⟨Al,cl,lss,rfl,_⟩:=hx.ex;have Ve:¬ ((n:Int) < 1):=by omega
 have Yc:¬ ((n:Int) > 4):=by omega
 have Yd:¬ ((l.length:Int) > 300):=by omega
 have Nj:inB (n:Int) 1 4=true:=by unfold inB;rw [Bool.and_eq_true,decide_eq_true_eq,decide_eq_true_eq];omega
 have HX:=mA hx;have HY:=mA hy;clear hx hy;cases s
 case' false =>
  have Hv:=zAa w (.cells #[.slice none 0 0,.slice none 0 0,.slice none 0 0,.slice none 0 0,.slice none 0 0,.slice none 0 0] 30);have Hw:=zAa (w.alloc (.cells #[.slice none 0 0,.slice none 0 0,.slice none 0 0,.slice none 0 0,.slice none 0 0,.slice none 0 0] 30)) (.cells #[.slice none 0 0,.slice none 0 0,.slice none 0 0,.slice none 0 0,.slice none 0 0] 38);have Kd:(w.alloc (.cells #[.slice none 0 0,.slice none 0 0,.slice none 0 0,.slice none 0 0,.slice none 0 0,.slice none 0 0] 30)).heap.size=w.heap.size+1:=by simp
  have Kt:NetGE false ((w.alloc (.cells #[.slice none 0 0,.slice none 0 0,.slice none 0 0,.slice none 0 0,.slice none 0 0,.slice none 0 0] 30)).alloc (.cells #[.slice none 0 0,.slice none 0 0,.slice none 0 0,.slice none 0 0,.slice none 0 0] 38)) w.heap.size (w.heap.size+1) (Scu.made 0 0) :=
   ⟨_,_,_,_,_,by rw [<- Kd];exact Blk.new _ _ _,⟨_,OwnR.nil_⟩,⟨_,OwnR.nil_⟩,⟨_,OwnR.nil_⟩,⟨_,OwnR.nil_⟩,⟨_,OwnR.nil_⟩,Nat.le_succ _⟩
  obtain ⟨W0,Ke⟩:=mJ ((w.alloc (.cells #[.slice none 0 0,.slice none 0 0,.slice none 0 0,.slice none 0 0,.slice none 0 0,.slice none 0 0] 30)).alloc (.cells #[.slice none 0 0,.slice none 0 0,.slice none 0 0,.slice none 0 0,.slice none 0 0] 38));have Nk:=mA (show Blk W0 w.heap.size 30 #[.slice none 0 0,.slice none 0 0,.slice none 0 0,.slice none 0 0,.slice none 0 0,.slice none 0 0] by rw [Ke];exact (Blk.new w 30 #[.slice none 0 0,.slice none 0 0,.slice none 0 0,.slice none 0 0,.slice none 0 0,.slice none 0 0]).same Hw);have Vi:=mA (show Below w.heap.size w W0 by rw [Ke];exact Hv.trans (Hw.mono Hv.size));rw [<- Ke] at Kt;have Go:=mA Kt;clear Hv Hw Kd Kt;change Calls Tryz.prog 4 _ _ _;go_enter Tryz.func4,Tryz.ntmps4
  go_wp2_with (first | (go_at_call 12;refine (zAt _ _ _ _).mono ?_;rintro en w9 ⟨rfl,rfl⟩;rw [Nj];dsimp only [Bool.not_true,Bool.not_false,Bool.false_and,Bool.and_false,Bool.and_true]) | fail)
  rw [<- Ke];clear Ke;go_loopw [29] (fun i wr=>∃ (k:Nat),k<=3/\i=.int .i64 k/\Hid (NetGE false wr w.heap.size (w.heap.size+1) (Scu.made k 0)/\Fr w.heap.size W0 wr)) (fun i _=>3 - (intOf i).toNat)
  case atStart=>exact ⟨0,mE _,rfl,mA ⟨Go.out,Fr.refl _ _⟩⟩
 case' true =>
  have Hv:=zAa w (.cells #[.slice none 0 0,.slice none 0 0,.slice none 0 0,.slice none 0 0,.slice none 0 0,.slice none 0 0] 30);have Hw:=zAa (w.alloc (.cells #[.slice none 0 0,.slice none 0 0,.slice none 0 0,.slice none 0 0,.slice none 0 0,.slice none 0 0] 30)) (.cells #[.slice none 0 0,.slice none 0 0,.slice none 0 0,.slice none 0 0,.slice none 0 0] 64);have Kd:(w.alloc (.cells #[.slice none 0 0,.slice none 0 0,.slice none 0 0,.slice none 0 0,.slice none 0 0,.slice none 0 0] 30)).heap.size=w.heap.size+1:=by simp
  have Kt:NetGE true ((w.alloc (.cells #[.slice none 0 0,.slice none 0 0,.slice none 0 0,.slice none 0 0,.slice none 0 0,.slice none 0 0] 30)).alloc (.cells #[.slice none 0 0,.slice none 0 0,.slice none 0 0,.slice none 0 0,.slice none 0 0] 64)) w.heap.size (w.heap.size+1) (Scu.made 0 0) :=
   ⟨_,_,_,_,_,by rw [<- Kd];exact Blk.new _ _ _,⟨_,OwnR.nil_⟩,⟨_,OwnR.nil_⟩,⟨_,OwnR.nil_⟩,⟨_,OwnR.nil_⟩,⟨_,OwnR.nil_⟩,Nat.le_succ _⟩
  obtain ⟨W0,Ke⟩:=mJ ((w.alloc (.cells #[.slice none 0 0,.slice none 0 0,.slice none 0 0,.slice none 0 0,.slice none 0 0,.slice none 0 0] 30)).alloc (.cells #[.slice none 0 0,.slice none 0 0,.slice none 0 0,.slice none 0 0,.slice none 0 0] 64));have Nk:=mA (show Blk W0 w.heap.size 30 #[.slice none 0 0,.slice none 0 0,.slice none 0 0,.slice none 0 0,.slice none 0 0,.slice none 0 0] by rw [Ke];exact (Blk.new w 30 #[.slice none 0 0,.slice none 0 0,.slice none 0 0,.slice none 0 0,.slice none 0 0,.slice none 0 0]).same Hw);have Vi:=mA (show Below w.heap.size w W0 by rw [Ke];exact Hv.trans (Hw.mono Hv.size));rw [<- Ke] at Kt;have Go:=mA Kt;clear Hv Hw Kd Kt;change Calls Tryz.prog 5 _ _ _;go_enter Tryz.func5,Tryz.ntmps5
  go_wp2_with (first | (go_at_call 12;refine (zAt _ _ _ _).mono ?_;rintro en w9 ⟨rfl,rfl⟩;rw [Nj];dsimp only [Bool.not_true,Bool.not_false,Bool.false_and,Bool.and_false,Bool.and_true]) | fail)
  rw [<- Ke];clear Ke;go_loopw [7] (fun i wr=>∃ (k:Nat),k<=3/\i=.int .i64 k/\Hid (NetGE true wr w.heap.size (w.heap.size+1) (Scu.made k 0)/\Fr w.heap.size W0 wr)) (fun i _=>3 - (intOf i).toNat)
  case atStart=>exact ⟨0,mE _,rfl,mA ⟨Go.out,Fr.refl _ _⟩⟩
 all_goals
  obtain ⟨k,hk,rfl,HI⟩:=hrel;by_cases Ko:k < 3
  ·have Vj:(k:Int) < 3:=by omega
   obtain ⟨⟨rv,sv,fv,cv,tv,hN⟩,hF⟩:=HI.out;obtain ⟨y,hy⟩:=mK (Scu.made k 0);rw [hy] at hN;have Nl:y.replicas.length=k:=by rw [<- hy];simp [Scu.made]
   have Nm:y.slots.length=k:=by rw [<- hy];simp [Scu.made]
   obtain ⟨B0,e0,B1,e1,B2,e2,B3,e3,B4,e4,rfl,rfl,rfl,rfl,rfl⟩:=hN.forms;obtain ⟨-,d1,-⟩:=cz5 hN.box;have dl:=hN.box.lt;have Kl:w.heap.size<=wr.heap.size:=mD Vi.out.size hF.size;have HN:=mA hN;have HF:=mA hF;have Vk:=mA (mB hy (mB Nl Nm));clear hN hF hy Nl Nm HI;go_wp2_with fail
   have Hi:wr.drew.cell? ⟨w.heap.size+1,1,none⟩=some (.slice B1 y.slots.length e1):=d1;refine rgF (fun w'=>w'.cell? ⟨w.heap.size+1,1,none⟩=some (.slice B1 y.slots.length e1)) [10] [0,1,2,3,4] Hi ?_;iterate 5
    (refine tkc (v:=?_) rfl (Or.inl ⟨by rfl,?_⟩) ?_;rotate_left;(intro wv Hk;have s0:wv.cell? _=_:=Hk;go_simp;with_reducible rfl);(try simp only [Act.put,zp1,zp2,zp3]))
   refine tkz (fun Hd=>?_);refine alF 5 (fun KA Hm=>?_);go_simp;first
   | refine (zQb _).mono ?_
   | refine (zRz _).mono ?_
   rintro en x1 ⟨⟨u1,rfl,Km⟩,k1⟩;have nn1:Below wr.heap.size wr x1:=(mG _ _).drew.trans k1;refine Hm _ _ ⟨.inr (cW nn1 dl d1),?_⟩;refine puT ?_;obtain ⟨A1u,c1u,e1u⟩:∃ A c,u1=.slice A Scu.stageNew.length c:=by obtain ⟨⟨A,c,e,_⟩,_⟩:=Km.is;exact ⟨A,c,e⟩
   subst e1u;refine alF 6 (fun KB Hn=>?_);go_simp;have Ha:=nn1.alloc nn1.size (.cells #[.slice A1u Scu.stageNew.length c1u] 39);refine Hn _ _ ⟨.inr (cW Ha dl d1),?_⟩;refine puT ?_;have Kc:=HN.out.below Ha;obtain ⟨css,Hx⟩:=Kc.slots;have Vy:y.slots.length<=3:=by rw [Vk.out.2.2];omega
   refine alF 7 (fun KC Ho=>?_);rw [if_pos (by rfl)];refine zCi _ _ _ 24 rfl zHp w.heap.size _ y.slots.length css.flatten rfl Hx.row (.slice (some ⟨x1.heap.size,0,none⟩) 1 1) 1 [.slice A1u Scu.stageNew.length c1u] rfl zLn (zUq rfl) (by unfold maxLen;omega) (by omega) (mD Kl Ha.size) ?_;intro v9 x4 Hf Hb _;obtain ⟨A9,c9,rfl,-⟩:=zAi Hf;have Hc:=Kc.pushSlot (m:=Scu.stageNew) Hx ⟨_,rfl,Km.is.below (zAa x1 _)⟩ (by unfold R47;omega) Hf Hb (mD Kl Ha.size);have Hh:=Kc.box4 Hx.row Hb (by decide);obtain ⟨-,g1,-⟩:=cz5 Hh;have gz:=Hh.frozen;have gl4:=Hh.lt;refine Ho _ _ ⟨.inr g1,?_⟩;refine puT ?_;refine tkFs 16 [8,9] (show World.cell? _ _=_ from g1) (shF (shF (shF Hd 5) 6) 7) ?_;iterate 2
    (refine tkc (v:=?_) rfl (Or.inl ⟨by rfl,?_⟩) ?_;rotate_left;(intro wv Hk;skip;go_simp;with_reducible rfl);(try simp only [Act.put,zp1,zp2,zp3]))
   refine tkz (fun Hd=>?_);refine alF 10 (fun KD Hs=>?_);go_simp;refine Hs _ _ ⟨.inl (by simp),zAe (by kernel_rfl) ?_ _⟩;refine puT ?_;obtain ⟨W2,Nn⟩:=mJ (x4.setCell ⟨w.heap.size+1,1,none⟩ (.slice A9 (y.slots.length+1) c9));change Exit.then _ _ _ _ (x4.setCell ⟨w.heap.size+1,1,none⟩ (.slice A9 (y.slots.length+1) c9));rw [<- Nn] at Hc ⊢;obtain ⟨y2,Vz⟩:=mK ({ y with slots:=y.slots ++ [Scu.stageNew] });have No:y2.replicas.length=k:=by rw [<- Vz];exact Vk.out.2.1
   rw [Vz] at Hc;have Np:=mA (mB Vz No);have Ro:=mA Hc.1;have Nq:=mA (HF.out.trans ((Fr.of Ha Kl).trans Hc.2));clear Vz No Nn Hc Hh g1 gz gl4 Hi Hs Ho Hn Hm Hd Ha Kc Hx Hf Hb Km nn1 d1 dl HN HF k1 Vy;obtain ⟨rr,fr,Nr⟩:∃ rr fr,Scu.repNew (k:Int) Scu.keptNew=(rr,fr):=⟨_,_,rfl⟩;have Gp:=mA Nr;clear Nr;go_upto_region 10 with fail
   go_wp2_with fail
   first
   | refine (zIq false none 0 0 k Scu.keptNew W2 0 IsStrs.nil_ rr fr Gp.out).mono ?_
   | refine (zIq true none 0 0 k Scu.keptNew W2 0 IsStrs.nil_ rr fr Gp.out).mono ?_
   rintro en w3 ⟨⟨lu,hv,wv,gv,nv,rfl,Gq⟩,k3⟩;obtain ⟨E0,m0,z0,E1,z1,E2,z2,E3,z3,E4,z4,rfl,rfl,rfl,rfl,rfl⟩:=Gq.forms;go_upto_region 11 with fail
   have Kf:=k3.trans ((zAa w3 (.cells (rN rr E0 m0 z0 E1 z1 E2 z2 E3 z3 E4 z4) 47)).mono k3.size);have Kg:=Blk.new w3 47 (rN rr E0 m0 z0 E1 z1 E2 z2 E3 z3 E4 z4);have Ku:=Gq.below (zAa w3 (.cells (rN rr E0 m0 z0 E1 z1 E2 z2 E3 z3 E4 z4) 47));obtain ⟨Wd,Kp⟩:=mJ (w3.alloc (.cells (rN rr E0 m0 z0 E1 z1 E2 z2 E3 z3 E4 z4) 47));rw [<- Kp] at Kf Kg Ku ⊢;have Kv:=Ro.out.below Kf;obtain ⟨b0,a0,b1,a1,b2,a2,b3,a3,b4,a4,erv,esv,efv,ecv,etv⟩:=Kv.forms;rw [erv] at Kv;obtain ⟨css,Hx⟩:=Kv.reps;have d0:=cz1 Kv.box;obtain ⟨q0,q1,q2,q3,q4,q5,q6,q7,q8,q9⟩:=cz10 Kg;have dl:=Kv.box.lt;have Ns:w.heap.size<=W2.heap.size:=mD Vi.out.size Nq.out.size;have Kw:w.heap.size<=Wd.heap.size:=mD Ns Kf.size;have Rp:=mA Kv;have Vl:=mA Hx;have Nt:=mA Ku;have Rq:=mA (Nq.out.trans (Fr.of Kf Ns));clear Kv Hx Ku Kf k3 Gq Kg Kp erv esv efv ecv etv;go_wp2_with fail
   have Hi:Wd.drew.cell? ⟨w.heap.size+1,0,none⟩=some (.slice b0 y2.replicas.length a0):=d0;refine rgF (fun w'=>w'.cell? ⟨w.heap.size+1,0,none⟩=some (.slice b0 y2.replicas.length a0)) [10] [0,1,2,3,4] Hi ?_;iterate 5
    (refine tkc (v:=?_) rfl (Or.inl ⟨by rfl,?_⟩) ?_;rotate_left;(intro wv Hk;have s0:wv.cell? _=_:=Hk;go_simp;with_reducible rfl);(try simp only [Act.put,zp1,zp2,zp3]))
   refine tkz (fun Hd=>?_);refine alF 5 (fun KA Hm=>?_);go_simp;refine Hm _ _ ⟨.inr Hi,?_⟩;refine puT ?_;refine alF 6 (fun KB Hn=>?_);go_simp;have Ha:=(mG Wd.heap.size Wd).drew.alloc (mC _) (.cells (rN rr E0 m0 z0 E1 z1 E2 z2 E3 z3 E4 z4) 47);refine Hn _ _ ⟨.inr (cW Ha dl d0),?_⟩;refine puT ?_;have Kc:=Rp.out.below Ha;have Hx:=Vl.out.same (B:=0) (Ts:=[9,3,4,42,47]) (by simp) (Same.below Ha) (fun _ _ h=>h.same (Ts:=[9,3,4,42]) (by simp) (Same.below Ha));have Ye:y2.replicas.length<=3:=by rw [Np.out.2];omega
   refine alF 7 (fun KC Ho=>?_);rw [if_pos (by rfl)];refine zCi _ _ _ 23 rfl zNw w.heap.size _ y2.replicas.length css.flatten rfl Hx.row (.slice (some ⟨Wd.heap.size,0,none⟩) 1 1) 1 (repV rr (.slice E0 m0 z0) (.slice E1 rr.have_.length z1) (.slice E2 rr.wants.length z2) (.slice E3 rr.gives.length z3) (.slice E4 rr.given.length z4)) rfl (zIs (W:=Wd.drew) rfl) (zJp Nt.out) (by unfold maxLen;omega) (by omega) (mD Kw Ha.size) ?_;intro v9 x4 Hf Hb _;obtain ⟨A9,c9,rfl,-⟩:=zAi Hf;have Hc:=Kc.pushRep (m:=rr) Hx ⟨_,_,_,_,_,rfl,Nt.out.below Ha⟩ (by unfold R47;omega) Hf Hb (mD Kw Ha.size);have Hh:=Kc.box4 Hx.row Hb (by decide);have g0:=cz1 Hh;have gz:=Hh.frozen;have gl4:=Hh.lt;refine Ho _ _ ⟨.inr g0,?_⟩;refine puT ?_;refine tkFs 16 [8,9] (show World.cell? _ _=_ from g0) (shF (shF (shF Hd 5) 6) 7) ?_;iterate 2
    (refine tkc (v:=?_) rfl (Or.inl ⟨by rfl,?_⟩) ?_;rotate_left;(intro wv Hk;skip;go_simp;with_reducible rfl);(try simp only [Act.put,zp1,zp2,zp3]))
   refine tkz (fun Hd=>?_);refine alF 10 (fun KD Hs=>?_);go_simp;refine Hs _ _ ⟨.inl (by simp),zAe (by kernel_rfl) ?_ _⟩;refine puT ?_;obtain ⟨W4,Nu⟩:=mJ (x4.setCell ⟨w.heap.size+1,0,none⟩ (.slice A9 (y2.replicas.length+1) c9));change Exit.inBlock _ _ _ _ (x4.setCell ⟨w.heap.size+1,0,none⟩ (.slice A9 (y2.replicas.length+1) c9));rw [<- Nu] at Hc ⊢;have Ht:({ y2 with replicas:=y2.replicas ++ [rr] } : Scu.Net)=Scu.made (k+1) 0:=by
    rw [<- Np.out.1,<- Vk.out.1];have:Scu.newRep k=rr:=by unfold Scu.newRep;rw [Gp.out]
    simp [Scu.made,List.range_succ,List.replicate_succ',this]
   have hE:=Hc.1.e;rw [Ht] at hE;have Hj:=mA (mB hE (Rq.out.trans ((Fr.of Ha Kw).trans Hc.2)));clear Nu Hc Hh g0 gz gl4 Hi Hs Ho Hn Hm Hd Ha Kc Hx Hf Hb d0 dl q0 q1 q2 q3 q4 q5 q6 q7 q8 q9 hE Ht;go_wp2_with fail
   go_roundw
   case rel=>first | exact ⟨k+1,by omega,rfl,Hj⟩ | ((repeat apply Exists.intro);exact ⟨⟨k+1,by omega,rfl,Hj⟩,rfl⟩)
   case measure=>simp only [intOf];omega
  ·have Vm:k=3:=by omega
   subst Vm;have Ga:=HI;clear HI;obtain ⟨W1,Nv⟩:∃ W:World,W=wr:=⟨_,rfl⟩;rw [<- Nv] at Ga ⊢;clear Nv;go_wp2_with fail
   first
   | have hz:NetGE true W1 w.heap.size (w.heap.size+1) (Scu.made 3 0):=Ga.out.1
     clear hz;go_loopw [10] (fun i wr=>∃ (k:Nat),k<=n/\i=.int .i64 ((k:Int)+1)/\Hid (NetGE true wr w.heap.size (w.heap.size+1) (Scu.made 3 k)/\Fr w.heap.size W0 wr)) (fun i _=>n+1 - (intOf i).toNat)
     case atStart=>exact ⟨0,mE _,rfl,Ga⟩
   | go_loopw [60] (fun i wr=>∃ (k:Nat),k<=n/\i=.int .i64 k/\Hid (NetGE false wr w.heap.size (w.heap.size+1) (Scu.made 3 k)/\Fr w.heap.size W0 wr)) (fun i _=>n - (intOf i).toNat)
     case atStart=>exact ⟨0,mE _,rfl,Ga⟩
   obtain ⟨k,hk,rfl,HI⟩:=hrel;by_cases Ko:k < n
   ·have Vj:(k:Int) < n:=by omega
    have Gr:(k:Int)+1<=n:=by omega
    obtain ⟨⟨rv,sv,fv,cv,tv,hN⟩,hF⟩:=HI.out;obtain ⟨y,hy⟩:=mK (Scu.made 3 k);rw [hy] at hN;have Rr:y.clients.length=k:=by rw [<- hy];simp [Scu.made]
    obtain ⟨B0,e0,B1,e1,B2,e2,B3,e3,B4,e4,rfl,rfl,rfl,rfl,rfl⟩:=hN.forms;obtain ⟨-,-,-,d3,-⟩:=cz5 hN.box;have dl:=hN.box.lt;have Kl:w.heap.size<=wr.heap.size:=mD Vi.out.size hF.size;obtain ⟨css,Nw⟩:=hN.cust;have Vk:=mA hy;have Vn:y.clients.length<=4:=by omega
    have Ha:=zAa wr (.cells (custV (Scu.newCust k)).toArray 55);have Vl:=mA (Nw.same (B:=0) (Ts:=[55]) (by simp) (Same.below Ha) (fun _ _ h=>h));have Kx:=mA Ha;have HN:=mA hN;have HF:=mA hF;clear Ha hN hF hy Rr HI Nw;go_wp2_with (at_builtin;refine zAz _ rfl _ _ 26 rfl zTu w.heap.size (.slice B3 y.clients.length e3) y.clients.length css.flatten rfl Vl.out.row (.slice (some ⟨wr.heap.size,0,none⟩) 1 1) 1 (custV (Scu.newCust k)) rfl (zIs rfl) (zUr _) (by unfold maxLen;omega) (by omega) (by simp only [World.size_alloc];omega) ?_)
    intro v4 x4 Hf Hb _;obtain ⟨A9,c9,rfl,-⟩:=zAi Hf;have Kc:=HN.out.below Kx.out;have Hc:=Kc.pushCust Vl.out (u:=Scu.newCust k) (by unfold R47;omega) Hf Hb (mD Kl Kx.out.size);have Hh:=Kc.box4 Vl.out.row Hb (by decide);obtain ⟨-,-,-,g3,-⟩:=cz5 Hh;have gz:=Hh.frozen;have gl4:=Hh.lt;have Ht:({ y with clients:=y.clients ++ [Scu.newCust k] } : Scu.Net)=Scu.made 3 (k+1):=by
     rw [<- Vk.out];simp [Scu.made,List.range_succ]
    have hE:=Hc.1.e;rw [Ht] at hE;have Hj:=mA (mB hE (HF.out.trans ((Fr.of Kx.out Kl).trans Hc.2)));clear Kc Hc Hh Hf Hb Ht hE;go_wp2_with fail
    go_roundw
    case rel=>first | exact ⟨k+1,by omega,rfl,Hj⟩ | ((repeat apply Exists.intro);exact ⟨⟨k+1,by omega,rfl,Hj⟩,rfl⟩)
    case measure=>simp [intOf];omega
   have Rs:k=n:=by omega
   subst Rs;have Gr:¬ (k:Int)+1<=(k:Int):=by omega
   have Kn:=zAa wr (.cells #[.slice none 0 0,.slice none 0 0,.slice none 0 0,.slice none 0 0,.slice none 0 0,.slice none 0 0] 30);obtain ⟨⟨rv,sv,fv,cv,tv,hN⟩,hF⟩:=HI.out;have Vo:w.heap.size+1 < wr.heap.size:=hN.box.lt;have Gb:=mA (show ∃ rv sv fv cv tv ov,RunG _ w (wr.alloc (.cells #[.slice none 0 0,.slice none 0 0,.slice none 0 0,.slice none 0 0,.slice none 0 0,.slice none 0 0] 30)) wr.heap.size (Scu.made 3 k) rv sv fv cv tv ov [] from
    ⟨_,_,_,_,_,.slice none 0 0,hN.below Kn,(zAc Nk.out hF.2 (by simp)).same Kn,Blk.new _ _ _,World.ownsRow_nil _ _ _ _,(Vi.out.trans hF.1).trans (Kn.mono (by omega)),Vo⟩)
   obtain ⟨gq,Nx⟩:=mK (wr.heap.size);clear Kn hN hF HI Vo;go_wp2_with fail
   obtain ⟨W5,Gs⟩:=mJ (wr.alloc (.cells #[.slice none 0 0,.slice none 0 0,.slice none 0 0,.slice none 0 0,.slice none 0 0,.slice none 0 0] 30));rw [<- Gs,Nx] at Gb;change Code.wp _ _ _ _ (wr.alloc (.cells #[.slice none 0 0,.slice none 0 0,.slice none 0 0,.slice none 0 0,.slice none 0 0,.slice none 0 0] 30));rw [<- Gs];clear Gs Nx;first
   | have hz:∃ rv sv fv cv tv ov,RunG true w W5 gq (Scu.made 3 k) rv sv fv cv tv ov []:=Gb.out
     clear hz;go_loopw [12] (fun i wr=>∃ (j:Nat),j<=l.length/\i=.int .i64 j/\Hid (∃ rv sv fv cv tv ov,RunG true w wr gq (Scu.steps (Scu.netNew k) (l.take j)).1 rv sv fv cv tv ov (Scu.steps (Scu.netNew k) (l.take j)).2)) (fun i _=>l.length - (intOf i).toNat)
     case atStart=>exact ⟨0,mE _,rfl,Gb⟩
   | go_loopw [79] (fun i wr=>∃ (j:Nat),j<=l.length/\i=.int .i64 j/\Hid (∃ rv sv fv cv tv ov,RunG false w wr gq (Scu.steps (Scu.netNew k) (l.take j)).1 rv sv fv cv tv ov (Scu.steps (Scu.netNew k) (l.take j)).2)) (fun i _=>l.length - (intOf i).toNat)
     case atStart=>exact ⟨0,mE _,rfl,Gb⟩
   obtain ⟨j,hj,rfl,HI⟩:=hrel;by_cases Ko:j < l.length
   ·have Vj:(j:Int) < l.length:=by omega
    obtain ⟨rv,sv,fv,cv,tv,ov,hI⟩:=HI.out;obtain ⟨y,cs,Gc⟩:∃ y cs,Scu.steps (Scu.netNew k) (l.take j)=(y,cs):=⟨_,_,rfl⟩;have He:=Scu.Came.steps (l.take j) (Scu.came_new (k:=k) h4);have Vn:cs.length=(l.take j).length:=by have:=Scu.steps_codes (l.take j) (Scu.netNew k);rw [Gc] at this;exact this
    rw [Gc] at hI He;dsimp only at hI He
    have Ny:(l.take j).length=j:=by rw [List.length_take];omega
    rw [Ny] at Vn He;have Kl:w.heap.size<=wr.heap.size:=hI.low.size;have Rt:=IsRow.same HX.out (Ts:=[57]) (by simp) (Same.below hI.low) (fun _ _ h=>h);obtain ⟨⟨A',c',css,e,_,Vp,Nz,Vf,Ra⟩,_⟩:=Rt;obtain ⟨rfl,rfl⟩:=slq e;obtain ⟨g,o,ca,rfl,Yf,Gt,Kq,Gu⟩:=zHq Vp Nz (by decide) Vf Ra Ko;clear e Vp Nz Vf Ra Gt;obtain ⟨a,ha⟩:=mK (l[j]);rw [ha] at Gu;have Gv:ca=actV a:=Gu;subst Gv;obtain ⟨c0,c1,c2,c3,c4,c5,c6,c7,c8⟩:=rg9 (rgo Kq);obtain ⟨y',f,Vq⟩:∃ y' f,Scu.act y a=(y',f):=⟨_,_,rfl⟩;have Yg:cs.length<=300:=by omega
    obtain ⟨Ao,co,eov,-⟩:=zAi hI.codes;subst eov;have Gd:=mA hI;have Kr:=mA (mB Gc (mB ha Vq));have Rb:=mA He;clear Gu Kq hI Gc He ha HI Vn Ny Vq;first
    | have hz:RunG true w wr gq y _ _ _ _ _ _ cs:=Gd.out
      clear hz;obtain ⟨-,-,-,-,-,d5⟩:=cz6 Gd.out.out;have HR:=Gd;have Kw:=Kl;go_wp2_with fail
      have Hi:World.cell? (wr).drew ⟨gq,5,none⟩=some (.slice Ao cs.length co):=d5;refine rgF (fun w'=>w'.cell? ⟨gq,5,none⟩=some (.slice Ao cs.length co)) [11] [0,1,2,3,4,5] Hi ?_;iterate 6
       (refine tkc (v:=?_) rfl (Or.inl ⟨by rfl,?_⟩) ?_;rotate_left;(intro wv Hk;have s0:wv.cell? _=_:=Hk;go_simp;with_reducible rfl);(try simp only [Act.put,zp1,zp2,zp3]))
      refine tkz (fun Hd=>?_);refine alF 6 (fun KA Hm=>?_);go_simp;refine Hm _ _ ⟨.inr Hi,?_⟩;refine puT ?_;have Ky:=HR.out.below (mG (wr).heap.size wr).drew;refine alF 7 (fun KB Hn=>?_);go_simp;refine (zZq _ a (wr).drew w.heap.size (w.heap.size+1) y _ _ _ _ _ Ky.net Kw (0+j) Rb.out (by omega) y' f Kr.out.2.2).mono ?_;rintro en x1 ⟨rfl,⟨rv',sv',fv',cv',tv',Ve⟩,Vr⟩;have Kz:=Ky.acted Ve Vr;obtain ⟨-,-,-,-,-,g5⟩:=cz6 Kz.out;refine Hn _ _ ⟨.inr g5,?_⟩;refine puT ?_;refine alF 8 (fun KC Ho=>?_);go_simp;have Hy:=Kz.below (zAa x1 (.cells #[.int .i64 f] 31));obtain ⟨-,-,-,-,-,g6⟩:=cz6 Hy.out;refine Ho _ _ ⟨.inr g6,?_⟩;refine puT ?_;refine alF 9 (fun KD Hs=>?_);rw [if_pos (by rfl)];refine zCi _ _ _ 28 rfl zPc w.heap.size _ cs.length (cs.map (Value.int .i64)) rfl Hy.codes (.slice (some ⟨x1.heap.size,0,none⟩) 1 1) 1 [.int .i64 f] rfl zLn (zUq rfl) (by unfold maxLen;omega) (by omega) Hy.low.size ?_;intro v9 x4 Hf Hb _;obtain ⟨A9,c9,rfl,-⟩:=zAi Hf;have Hc:=Hy.push Hf Hb;have Hl:=zAc Hy.out (Ts:=[30]) (Same.own Hy.codes Hb (mE _) (by decide)) (by simp);obtain ⟨-,-,-,-,-,z5⟩:=cz6 Hl;have zz:=Hl.frozen;have zl:=Hl.lt;refine Hs _ _ ⟨.inr z5,?_⟩;refine puT ?_;refine tkFs 16 [10] (show World.cell? _ _=_ from z5) (shF (shF (shF (shF Hd 6) 7) 8) 9) ?_;iterate 1
       (refine tkc (v:=?_) rfl (Or.inl ⟨by rfl,?_⟩) ?_;rotate_left;(intro wv Hk;skip;go_simp;with_reducible rfl);(try simp only [Act.put,zp1,zp2,zp3]))
      refine tkz (fun Hd=>?_);refine alF 11 (fun KE Ka=>?_);go_simp;refine Ka _ _ ⟨.inl (by simp),zAe (by kernel_rfl) ?_ _⟩;refine puT ?_;obtain ⟨W6,Vs⟩:=mJ (x4.setCell ⟨gq,5,none⟩ (.slice A9 (cs.length+1) c9));change Exit.inBlock _ _ _ _ (x4.setCell ⟨gq,5,none⟩ (.slice A9 (cs.length+1) c9));rw [<- Vs] at Hc ⊢;have Hj:=mA (show ∃ rv sv fv cv tv ov,RunG _ w W6 gq (Scu.steps (Scu.netNew k) (l.take (j+1))).1 rv sv fv cv tv ov (Scu.steps (Scu.netNew k) (l.take (j+1))).2 from by
       rw [Scu.steps_take Ko Kr.out.1,Kr.out.2.1,Kr.out.2.2];exact ⟨_,_,_,_,_,_,Hc⟩)
      clear Vs Hc Hl z5 zz zl Hi Hm Hn Ho Hs Ka Hd Kz Hy Ky Hf Hb d5 g5 g6 Ve Vr
    | go_upto_region 22 with fail
      have Ha:=zAa wr (.cells (aN a) 57);have Kg:=Blk.new wr 57 (aN a);have hR:=Gd.out.below Ha;obtain ⟨Wd,Kp⟩:=mJ (wr.alloc (.cells (aN a) 57));rw [<- Kp] at Ha Kg hR ⊢;obtain ⟨-,-,-,-,-,d5⟩:=cz6 hR.out;obtain ⟨q0,q1,q2,q3,q4,q5,q6,q7,q8⟩:=cz9 Kg;have HR:=mA hR;have Kw:w.heap.size<=Wd.heap.size:=mD Kl Ha.size;clear c0 c1 c2 c3 c4 c5 c6 c7 c8 Ha Kg hR Kp;go_wp2_with fail
      have Hi:World.cell? (Wd).drew ⟨gq,5,none⟩=some (.slice Ao cs.length co):=d5;refine rgF (fun w'=>w'.cell? ⟨gq,5,none⟩=some (.slice Ao cs.length co)) [8] [0,1,2] Hi ?_;iterate 3
       (refine tkc (v:=?_) rfl (Or.inl ⟨by rfl,?_⟩) ?_;rotate_left;(intro wv Hk;have s0:wv.cell? _=_:=Hk;go_simp;with_reducible rfl);(try simp only [Act.put,zp1,zp2,zp3]))
      refine tkz (fun Hd=>?_);refine alF 3 (fun KA Hm=>?_);go_simp;refine Hm _ _ ⟨.inr Hi,?_⟩;refine puT ?_;have Ky:=HR.out.below (mG (Wd).heap.size Wd).drew;refine alF 4 (fun KB Hn=>?_);go_simp;refine (zZq _ a (Wd).drew w.heap.size (w.heap.size+1) y _ _ _ _ _ Ky.net Kw (0+j) Rb.out (by omega) y' f Kr.out.2.2).mono ?_;rintro en x1 ⟨rfl,⟨rv',sv',fv',cv',tv',Ve⟩,Vr⟩;have Kz:=Ky.acted Ve Vr;obtain ⟨-,-,-,-,-,g5⟩:=cz6 Kz.out;refine Hn _ _ ⟨.inr g5,?_⟩;refine puT ?_;refine alF 5 (fun KC Ho=>?_);go_simp;have Hy:=Kz.below (zAa x1 (.cells #[.int .i64 f] 31));obtain ⟨-,-,-,-,-,g6⟩:=cz6 Hy.out;refine Ho _ _ ⟨.inr g6,?_⟩;refine puT ?_;refine alF 6 (fun KD Hs=>?_);rw [if_pos (by rfl)];refine zCi _ _ _ 28 rfl zPc w.heap.size _ cs.length (cs.map (Value.int .i64)) rfl Hy.codes (.slice (some ⟨x1.heap.size,0,none⟩) 1 1) 1 [.int .i64 f] rfl zLn (zUq rfl) (by unfold maxLen;omega) (by omega) Hy.low.size ?_;intro v9 x4 Hf Hb _;obtain ⟨A9,c9,rfl,-⟩:=zAi Hf;have Hc:=Hy.push Hf Hb;have Hl:=zAc Hy.out (Ts:=[30]) (Same.own Hy.codes Hb (mE _) (by decide)) (by simp);obtain ⟨-,-,-,-,-,z5⟩:=cz6 Hl;have zz:=Hl.frozen;have zl:=Hl.lt;refine Hs _ _ ⟨.inr z5,?_⟩;refine puT ?_;refine tkFs 16 [7] (show World.cell? _ _=_ from z5) (shF (shF (shF (shF Hd 3) 4) 5) 6) ?_;iterate 1
       (refine tkc (v:=?_) rfl (Or.inl ⟨by rfl,?_⟩) ?_;rotate_left;(intro wv Hk;skip;go_simp;with_reducible rfl);(try simp only [Act.put,zp1,zp2,zp3]))
      refine tkz (fun Hd=>?_);refine alF 8 (fun KE Ka=>?_);go_simp;refine Ka _ _ ⟨.inl (by simp),zAe (by kernel_rfl) ?_ _⟩;refine puT ?_;obtain ⟨W6,Vs⟩:=mJ (x4.setCell ⟨gq,5,none⟩ (.slice A9 (cs.length+1) c9));change Exit.inBlock _ _ _ _ (x4.setCell ⟨gq,5,none⟩ (.slice A9 (cs.length+1) c9));rw [<- Vs] at Hc ⊢;have Hj:=mA (show ∃ rv sv fv cv tv ov,RunG _ w W6 gq (Scu.steps (Scu.netNew k) (l.take (j+1))).1 rv sv fv cv tv ov (Scu.steps (Scu.netNew k) (l.take (j+1))).2 from by
       rw [Scu.steps_take Ko Kr.out.1,Kr.out.2.1,Kr.out.2.2];exact ⟨_,_,_,_,_,_,Hc⟩)
      clear Vs Hc Hl z5 zz zl Hi Hm Hn Ho Hs Ka Hd Kz Hy Ky Hf Hb d5 g5 g6 Ve Vr
    go_wp2_with fail
    go_roundw
    case rel=>first | exact ⟨j+1,by omega,rfl,Hj⟩ | ((repeat apply Exists.intro);exact ⟨⟨j+1,by omega,rfl,Hj⟩,rfl⟩)
    case measure=>simp [intOf];omega
   have Ru:j=l.length:=by omega
   subst Ru;obtain ⟨rv,sv,fv,cv,tv,ov,hI⟩:=HI.out;rw [List.take_length,HY.out] at hI;dsimp only at hI
   have He:=Scu.Came.steps l (Scu.came_new (k:=k) h4);rw [HY.out] at He;dsimp only at He
   obtain ⟨Ge,Rc⟩:=He.rlen;obtain ⟨W7,Re⟩:∃ W:World,W=wr:=⟨_,rfl⟩;rw [<- Re] at hI ⊢;obtain ⟨B0,e0,B1,e1,B2,e2,B3,e3,B4,e4,rfl,rfl,rfl,rfl,rfl⟩:=hI.net.forms;obtain ⟨d0,-⟩:=cz5 hI.net.box;have dl:=hI.net.box.lt;have Gw:w.heap.size<=W7.heap.size:=hI.low.size;have Rv:=hI.gq;have Hr:=mA hI;have Gx:=mA hI.start;have Vt:=mA (mB Ge Rc);clear Re hI HI He Ge Rc;go_wp2_with fail
   clear d0;first
   | have hz:∃ orv osv,RunDG true w W7 W7 gq x.replicas x.slots 0 0 orv osv ov:=Gx.out
     clear hz;go_loopw [13] (fun i wr=>∃ (r:Nat),r<=3/\i=.int .i64 r/\Hid (∃ orv osv,RunDG true w W7 wr gq x.replicas x.slots r r orv osv ov)) (fun i _=>3 - (intOf i).toNat)
     case atStart=>exact ⟨0,mE _,rfl,Gx⟩
   | go_loopw [97] (fun i wr=>∃ (r:Nat),r<=3/\i=.int .i64 r/\Hid (∃ orv osv,RunDG false w W7 wr gq x.replicas x.slots r r orv osv ov)) (fun i _=>3 - (intOf i).toNat)
     case atStart=>exact ⟨0,mE _,rfl,Gx⟩
   obtain ⟨r,hr,rfl,HI⟩:=hrel;by_cases Ko:r < 3
   ·have Yh:(r:Int) < 3:=by omega
    obtain ⟨orv,osv,hD⟩:=HI.out;have Gy:r < x.replicas.length:=by rw [Vt.out.1];exact Ko
    have Vy:r < x.slots.length:=by rw [Vt.out.2];exact Ko
    have Gz:(r:Int) < x.replicas.length:=by omega
    have Rw:(r:Int) < x.slots.length:=by omega
    have hN:=Hr.out.net.same (hD.same.mono (by simp) (mC _));obtain ⟨gr,cr,lu0,Yi,wv0,gv0,nv0,er',Rx,Yj,Gf,Na,-⟩:=hN.repAt Gy;obtain ⟨rfl,rfl⟩:=slq er';obtain ⟨rk,Nb⟩:=mK (x.replicas[r]);rw [Nb] at Na Gf;obtain ⟨F0,n0,q0,F1,q1,F2,q2,F3,q3,F4,q4,rfl,rfl,rfl,rfl,rfl⟩:=Gf.forms;obtain ⟨p0,p1,p2,p3,p4,p5,p6,p7,p8,p9⟩:=rg10 Na;have HD:=mA hD;have Vg:=mA Gf;have Rf:=mA Nb;have Va:(x.replicas.take r).length=r:=by rw [List.length_take];omega
    have Gg:=mA Va;obtain ⟨css,Gh⟩:=hD.reps;obtain ⟨Ao,co,eor⟩:=Gh.form;rw [Va] at eor;subst eor;clear hD hN er' Rx Gf Na Nb HI Va Gh;first
    | have hz:RunDG true w W7 wr gq x.replicas x.slots r r _ _ _:=HD.out
      clear hz;obtain ⟨css,Gh⟩:=HD.out.reps;have Ry:=mA Gh;have d5:=cz1 HD.out.out;have d6:=cz1 (Hr.out.keep HD.out.same);go_wp2_with fail
      have Hi:World.cell? (wr).drew ⟨gq,0,none⟩=some (.slice Ao r co)/\World.cell? (wr).drew ⟨w.heap.size+1,0,none⟩=_:=⟨d5,d6⟩;refine rgF (fun w'=>w'.cell? ⟨gq,0,none⟩=some (.slice Ao r co)/\w'.cell? ⟨w.heap.size+1,0,none⟩=some (.slice (some ⟨gr,0,none⟩) x.replicas.length e0)) [13] [0,1,2,3,4,5,6,7] Hi ?_;iterate 8
       (refine tkc (v:=?_) rfl (Or.inl ⟨by rfl,?_⟩) ?_;rotate_left;(intro wv Hk;obtain ⟨s0,s1⟩:=Hk;go_simp;with_reducible rfl);(try simp only [Act.put,zp1,zp2,zp3]))
      refine tkz (fun Hd=>?_);refine alF 8 (fun KA Hm=>?_);go_simp;refine Hm _ _ ⟨.inr Hi,?_⟩;refine puT ?_;have Kk:=HD.out.below (mG (wr).heap.size wr).drew;refine alF 9 (fun KB Hn=>?_);go_simp;first
      | refine (zJi F0 n0 q0 F1 rk.have_.length q1 F2 rk.wants.length q2 F3 rk.gives.length q3 F4 rk.given.length q4 rk (wr).drew 0 (Vg.out.below (mG (wr).heap.size wr).drew)).mono ?_
      | refine (zCs F0 n0 q0 F1 q1 F2 q2 F3 rk.gives.length q3 F4 q4 rk (wr).drew 0 (Vg.out.below (mG (wr).heap.size wr).drew)).mono ?_
      rintro en x1 ⟨⟨lu,hu,wu,gu,nu,rfl,ho,-⟩,k1⟩;obtain ⟨E0,m0,z0,E1,z1,E2,z2,E3,z3,E4,z4,rfl,rfl,rfl,rfl,rfl⟩:=ho.is.forms;have Hz:=Kk.below k1;refine Hn _ _ ⟨.inr ⟨cz1 Hz.out,cz1 (Hr.out.keep Hz.same)⟩,?_⟩;refine puT ?_;refine alF 10 (fun KC Ho=>?_);go_simp;have Ha:=zAa x1 (.cells (rN rk E0 m0 z0 E1 z1 E2 z2 E3 z3 E4 z4) 47);have Hg:=Hz.below Ha;refine Ho _ _ ⟨.inr ⟨cz1 Hg.out,cz1 (Hr.out.keep Hg.same)⟩,?_⟩;refine puT ?_;obtain ⟨css,Hp⟩:=Hg.reps;refine alF 11 (fun KD Hs=>?_);rw [if_pos (by rfl)];refine zCi _ _ _ 23 rfl zNw W7.heap.size _ r css.flatten rfl (by have:=Hp.row;rwa [Gg.out] at this) (.slice (some ⟨x1.heap.size,0,none⟩) 1 1) 1 (repV rk (.slice E0 m0 z0) (.slice E1 rk.have_.length z1) (.slice E2 rk.wants.length z2) (.slice E3 rk.gives.length z3) (.slice E4 rk.given.length z4)) rfl (zIs rfl) (zJp ho.is) (by unfold maxLen;omega) (by omega) Hg.same.size ?_;intro v9 x4 Hf Hb _;obtain ⟨A9,c9,rfl,-⟩:=zAi Hf;have Hc:=Hg.push (by omega) Gw Hp Gg.out.symm ⟨_,_,_,_,_,rfl,ho.is.below Ha⟩ (by unfold R47;omega) Hf Hb Gy Rf.out;have Hl:=zAc Hg.out (Ts:=[30]) (Same.own Hp.row Hb (mE _) (by decide)) (by simp);have Hq:=Hg.same.low ((mG W7.heap.size _).grown Hb Hg.same.size (fun q hq=>(Hp.row.lt q hq).1));have z5:=cz1 Hl;have zz:=Hl.frozen;have zl:=Hl.lt;have Kh:=mB z5 (cz1 (Hr.out.keep Hq));refine Hs _ _ ⟨.inr Kh,?_⟩;refine puT ?_;refine tkFs 16 [12] (show _/\_ from Kh) (shF (shF (shF (shF Hd 8) 9) 10) 11) ?_;iterate 1
       (refine tkc (v:=?_) rfl (Or.inl ⟨by rfl,?_⟩) ?_;rotate_left;(intro wv Hk;skip;go_simp;with_reducible rfl);(try simp only [Act.put,zp1,zp2,zp3]))
      refine tkz (fun Hd=>?_);refine alF 13 (fun KE Ka=>?_);go_simp;refine Ka _ _ ⟨.inl (by simp),zAe (by kernel_rfl) ?_ _⟩;refine puT ?_;obtain ⟨W8,Ks⟩:=mJ (x4.setCell ⟨gq,0,none⟩ (.slice A9 (r+1) c9));change Exit.then _ _ _ _ (x4.setCell ⟨gq,0,none⟩ (.slice A9 (r+1) c9));rw [<- Ks] at Hc ⊢;have Vb:=mA Hc;clear Ks Hc Hl z5 zz zl Kh Hq Hi Hm Hn Ho Hs Ka Hd Ha Hz Hg Kk Hf Hb d5 d6 Hp ho k1
    | go_upto_region 27 with fail
      have Ha:=zAa wr (.cells (rN rk F0 n0 q0 F1 q1 F2 q2 F3 q3 F4 q4) 47);have Kg:=Blk.new wr 47 (rN rk F0 n0 q0 F1 q1 F2 q2 F3 q3 F4 q4);obtain ⟨Wd,Kp⟩:=mJ (wr.alloc (.cells (rN rk F0 n0 q0 F1 q1 F2 q2 F3 q3 F4 q4) 47));rw [<- Kp] at Ha Kg ⊢;have HD:=mA (HD.out.below Ha);have Vg:=mA (Vg.out.below Ha);obtain ⟨b0,b1,b2,b3,b4,b5,b6,b7,b8,b9⟩:=cz10 Kg;have d5:=cz1 HD.out.out;have d6:=cz1 (Hr.out.keep HD.out.same);clear Ha Kg Kp p0 p1 p2 p3 p4 p5 p6 p7 p8 p9;go_wp2_with fail
      have Hi:World.cell? (Wd).drew ⟨gq,0,none⟩=some (.slice Ao r co)/\World.cell? (Wd).drew ⟨w.heap.size+1,0,none⟩=_:=⟨d5,d6⟩;refine rgF (fun w'=>w'.cell? ⟨gq,0,none⟩=some (.slice Ao r co)/\w'.cell? ⟨w.heap.size+1,0,none⟩=some (.slice (some ⟨gr,0,none⟩) x.replicas.length e0)) [7] [0,1] Hi ?_;iterate 2
       (refine tkc (v:=?_) rfl (Or.inl ⟨by rfl,?_⟩) ?_;rotate_left;(intro wv Hk;obtain ⟨s0,s1⟩:=Hk;go_simp;with_reducible rfl);(try simp only [Act.put,zp1,zp2,zp3]))
      refine tkz (fun Hd=>?_);refine alF 2 (fun KA Hm=>?_);go_simp;refine Hm _ _ ⟨.inr Hi,?_⟩;refine puT ?_;have Kk:=HD.out.below (mG (Wd).heap.size Wd).drew;refine alF 3 (fun KB Hn=>?_);go_simp;first
      | refine (zJi F0 n0 q0 F1 rk.have_.length q1 F2 rk.wants.length q2 F3 rk.gives.length q3 F4 rk.given.length q4 rk (Wd).drew 0 (Vg.out.below (mG (Wd).heap.size Wd).drew)).mono ?_
      | refine (zCs F0 n0 q0 F1 q1 F2 q2 F3 rk.gives.length q3 F4 q4 rk (Wd).drew 0 (Vg.out.below (mG (Wd).heap.size Wd).drew)).mono ?_
      rintro en x1 ⟨⟨lu,hu,wu,gu,nu,rfl,ho,-⟩,k1⟩;obtain ⟨E0,m0,z0,E1,z1,E2,z2,E3,z3,E4,z4,rfl,rfl,rfl,rfl,rfl⟩:=ho.is.forms;have Hz:=Kk.below k1;refine Hn _ _ ⟨.inr ⟨cz1 Hz.out,cz1 (Hr.out.keep Hz.same)⟩,?_⟩;refine puT ?_;refine alF 4 (fun KC Ho=>?_);go_simp;have Ha:=zAa x1 (.cells (rN rk E0 m0 z0 E1 z1 E2 z2 E3 z3 E4 z4) 47);have Hg:=Hz.below Ha;refine Ho _ _ ⟨.inr ⟨cz1 Hg.out,cz1 (Hr.out.keep Hg.same)⟩,?_⟩;refine puT ?_;obtain ⟨css,Hp⟩:=Hg.reps;refine alF 5 (fun KD Hs=>?_);rw [if_pos (by rfl)];refine zCi _ _ _ 23 rfl zNw W7.heap.size _ r css.flatten rfl (by have:=Hp.row;rwa [Gg.out] at this) (.slice (some ⟨x1.heap.size,0,none⟩) 1 1) 1 (repV rk (.slice E0 m0 z0) (.slice E1 rk.have_.length z1) (.slice E2 rk.wants.length z2) (.slice E3 rk.gives.length z3) (.slice E4 rk.given.length z4)) rfl (zIs rfl) (zJp ho.is) (by unfold maxLen;omega) (by omega) Hg.same.size ?_;intro v9 x4 Hf Hb _;obtain ⟨A9,c9,rfl,-⟩:=zAi Hf;have Hc:=Hg.push (by omega) Gw Hp Gg.out.symm ⟨_,_,_,_,_,rfl,ho.is.below Ha⟩ (by unfold R47;omega) Hf Hb Gy Rf.out;have Hl:=zAc Hg.out (Ts:=[30]) (Same.own Hp.row Hb (mE _) (by decide)) (by simp);have Hq:=Hg.same.low ((mG W7.heap.size _).grown Hb Hg.same.size (fun q hq=>(Hp.row.lt q hq).1));have z5:=cz1 Hl;have zz:=Hl.frozen;have zl:=Hl.lt;have Kh:=mB z5 (cz1 (Hr.out.keep Hq));refine Hs _ _ ⟨.inr Kh,?_⟩;refine puT ?_;refine tkFs 16 [6] (show _/\_ from Kh) (shF (shF (shF (shF Hd 2) 3) 4) 5) ?_;iterate 1
       (refine tkc (v:=?_) rfl (Or.inl ⟨by rfl,?_⟩) ?_;rotate_left;(intro wv Hk;skip;go_simp;with_reducible rfl);(try simp only [Act.put,zp1,zp2,zp3]))
      refine tkz (fun Hd=>?_);refine alF 7 (fun KE Ka=>?_);go_simp;refine Ka _ _ ⟨.inl (by simp),zAe (by kernel_rfl) ?_ _⟩;refine puT ?_;obtain ⟨W8,Ks⟩:=mJ (x4.setCell ⟨gq,0,none⟩ (.slice A9 (r+1) c9));change Exit.then _ _ _ _ (x4.setCell ⟨gq,0,none⟩ (.slice A9 (r+1) c9));rw [<- Ks] at Hc ⊢;have Vb:=mA Hc;clear Ks Hc Hl z5 zz zl Kh Hq Hi Hm Hn Ho Hs Ka Hd Ha Hz Hg Kk Hf Hb d5 d6 Hp ho k1
    obtain ⟨gs,cs',u,es,-,-,hu,Rg,-,curs,Rh⟩:=Hr.out.net.slotAt Vy;obtain ⟨rfl,rfl⟩:=slq es;obtain ⟨Au,cu,rfl,-⟩:=hu.ex;have HU:=mA hu;have Gi:=mA Rg;have Gj:=mA Rh;have Nc:=mA (mB hu.len hu.each);have Va:(x.slots.take r).length=r:=by rw [List.length_take];omega
    have Vu:=mA Va;obtain ⟨css2,Hx⟩:=Vb.out.slots;obtain ⟨Bo,bo,eos⟩:=Hx.form;rw [Va] at eos;subst eos;have d5:=(cz2 Vb.out.out).2;have d6:=(cz2 (Hr.out.keep Vb.out.same)).2;have d7:=(zFx Gj.out Vb.out.same (by simp) r).trans Gi.out;clear es hu Rg Rh Hx Va;go_wp2_with fail
    have Hi:=mB d5 (mB d6 d7);refine rgF (fun w'=>w'.cell? ⟨gq,1,none⟩=some (.slice Bo r bo)/\w'.cell? ⟨w.heap.size+1,1,none⟩=some (.slice (some ⟨gs,0,none⟩) x.slots.length e1)/\w'.cell? ⟨gs,r,none⟩=some (.slice Au x.slots[r].length cu)) [13] [0,1,2,3,4,5,6,7,8] (show World.cell? W8.drew _=_/\_ from Hi) ?_;iterate 9
     (refine tkc (v:=?_) rfl (Or.inl ⟨by rfl,?_⟩) ?_;rotate_left;(intro wv Hk;obtain ⟨s0,s1,s2⟩:=Hk;go_simp;with_reducible rfl);(try simp only [Act.put,zp1,zp2,zp3]))
    refine tkz (fun Hd=>?_);have Kk:=Vb.out.below (mG W8.heap.size W8).drew;refine alF 9 (fun KA Hm=>?_);first
    | have hz:RunDG false w W7 W8 gq x.replicas x.slots _ _ _ _ _:=Vb.out
      clear hz;go_simp;refine (zAp _ x.slots[r] W8.drew 0 (HU.out.same (by simp) Kk.same)).mono ?_;rintro en x1 ⟨⟨u1,rfl,Km⟩,k1⟩
    | rw [if_pos (by rfl)]
      obtain ⟨_,_,ex,_,Vf⟩:=(HU.out.same (by simp) Kk.same).ex;cases ex
      have Ri:=Nc.out.1;unfold R47 at Ri;refine zCi _ _ _ 39 rfl zBl W8.drew.heap.size (.slice none 0 0) 0 [] rfl (World.ownsRow_nil _ _ _ _) (.slice Au x.slots[r].length cu) x.slots[r].length (x.slots[r].map Value.string) rfl (zAq (size:=1) Vf (by simp) (fun e=>by subst e;have:=zBi Vf;simpa using this)) (zBf _) (by unfold maxLen;omega) (by omega) (mC _) ?_;intro u1 x1 Km Rj _;rw [Nat.zero_add,List.nil_append] at Km;have k1:=zAk Rj (mC _) (fun k e=>by cases e);clear Ri Vf Rj
    have Rk:=zNt Km rfl Nc.out.1 Nc.out.2;obtain ⟨Ac,cc,rfl,-⟩:=zAi Km;have Hz:=Kk.below k1;refine Hm _ _ ⟨.inr ⟨(cz2 Hz.out).2,(cz2 (Hr.out.keep Hz.same)).2,(zFx Gj.out Hz.same (by simp) r).trans Gi.out⟩,?_⟩;refine puT ?_;refine alF 10 (fun KB Hn=>?_);go_simp;have Ha:=zAa x1 (.cells #[.slice Ac x.slots[r].length cc] 39);have Hg:=Hz.below Ha;refine Hn _ _ ⟨.inr ⟨(cz2 Hg.out).2,(cz2 (Hr.out.keep Hg.same)).2,(zFx Gj.out Hg.same (by simp) r).trans Gi.out⟩,?_⟩;refine puT ?_;obtain ⟨css2,Ki⟩:=Hg.slots;refine alF 11 (fun KC Ho=>?_);rw [if_pos (by rfl)];refine zCi _ _ _ 24 rfl zHp W7.heap.size _ r css2.flatten rfl (by have:=Ki.row;rwa [Vu.out] at this) (.slice (some ⟨x1.heap.size,0,none⟩) 1 1) 1 [.slice Ac x.slots[r].length cc] rfl zLn (zUq rfl) (by unfold maxLen;omega) (by omega) Hg.same.size ?_;intro v9 x4 Hf Hb _;obtain ⟨A9,c9,rfl,-⟩:=zAi Hf;have Hc:=Hg.pushS (by omega) Gw Ki Vu.out.symm ⟨_,rfl,Rk.below Ha⟩ (by unfold R47;omega) Hf Hb Vy rfl;have Hl:=zAc Hg.out (Ts:=[30]) (Same.own Ki.row Hb (mE _) (by decide)) (by simp);have Hq:=Hg.same.low ((mG W7.heap.size _).grown Hb Hg.same.size (fun q hq=>(Ki.row.lt q hq).1));have z5:=(cz2 Hl).2;have zz:=Hl.frozen;have zl:=Hl.lt;have Kh:=mB z5 (mB (cz2 (Hr.out.keep Hq)).2 ((zFx Gj.out Hq (by simp) r).trans Gi.out));refine Ho _ _ ⟨.inr Kh,?_⟩;refine puT ?_;refine tkFs 16 [12] (show _/\_ from Kh) (shF (shF (shF Hd 9) 10) 11) ?_;iterate 1
     (refine tkc (v:=?_) rfl (Or.inl ⟨by rfl,?_⟩) ?_;rotate_left;(intro wv Hk;skip;go_simp;with_reducible rfl);(try simp only [Act.put,zp1,zp2,zp3]))
    refine tkz (fun Hd=>?_);refine alF 13 (fun KE Ka=>?_);go_simp;refine Ka _ _ ⟨.inl (by simp),zAe (by kernel_rfl) ?_ _⟩;refine puT ?_;obtain ⟨W9,Vc⟩:=mJ (x4.setCell ⟨gq,1,none⟩ (.slice A9 (r+1) c9));change Exit.inBlock _ _ _ _ (x4.setCell ⟨gq,1,none⟩ (.slice A9 (r+1) c9));rw [<- Vc] at Hc ⊢;have Hj:=mA Hc;clear Vc Hc Hl z5 zz zl Kh Hq Hi Hm Hn Ho Ka Hd Ha Hz Hg Kk Hf Hb d5 d6 d7 Ki k1 Km Rk;go_wp2_with fail
    go_roundw
    case rel=>first | exact ⟨r+1,by omega,rfl,mA ⟨_,_,Hj.out⟩⟩ | ((repeat apply Exists.intro);exact ⟨⟨r+1,by omega,rfl,mA ⟨_,_,Hj.out⟩⟩,rfl⟩)
    case measure=>simp [intOf];omega
   have Ge:r=3:=by omega
   subst Ge;obtain ⟨orv,osv,hD⟩:=HI.out;obtain ⟨W8,Ks⟩:∃ W:World,W=wr:=⟨_,rfl⟩;rw [<- Ks] at hD ⊢;clear Ks HI;have Gz:¬ ((3:Int) < x.replicas.length):=by rw [Vt.out.1];decide
   obtain ⟨cs1,Gk⟩:=hD.reps;obtain ⟨cs2,Gl⟩:=hD.slots;rw [List.take_of_length_le (by rw [Vt.out.1];omega)] at Gk;rw [List.take_of_length_le (by rw [Vt.out.2];omega)] at Gl;obtain ⟨O0,o0,rfl⟩:=Gk.form;obtain ⟨O1,o1,rfl⟩:=Gl.form;obtain ⟨Ac,cc,rfl,-⟩:=zAi Hr.out.codes;obtain ⟨-,-,d2,d3,d4⟩:=cz5 (Hr.out.keep hD.same);obtain ⟨-,-,z2,z3,z4,-⟩:=cz6 hD.out;have zz:=hD.out.frozen;have zl:=hD.out.lt;have Vh:=mA hD;have Rz:=mA Gk;have Ya:=mA Gl;have Kb:w.heap.size+1≠gq:=by omega
   clear hD Gk Gl;first
   | have hz:RunDG true w W7 W8 gq x.replicas x.slots _ _ _ _ _:=Vh.out
     clear hz;have u3:(W8.setCell ⟨gq,2,none⟩ (.slice B2 x.flying.length e2)).cell? ⟨w.heap.size+1,3,none⟩=_:=(zAx Kb).trans d3;have u4:((W8.setCell ⟨gq,2,none⟩ (.slice B2 x.flying.length e2)).setCell ⟨gq,3,none⟩ (.slice B3 x.clients.length e3)).cell? ⟨w.heap.size+1,4,none⟩=_:=(zAx Kb).trans ((zAx Kb).trans d4);go_upto_region 29 with fail
     clear u3 u4;obtain ⟨WA,hA,Gm⟩:∃ W,Below W8.heap.size W8 W/\W8=W:=⟨_,mG _ _,rfl⟩;change Code.wp _ _ _ _ (((W8.setCell ⟨gq,2,none⟩ (.slice B2 x.flying.length e2)).setCell ⟨gq,3,none⟩ (.slice B3 x.clients.length e3)).setCell ⟨gq,4,none⟩ (.slice B4 x.told.length e4));rw [Gm]
   | go_wp2_with fail
     have Vv:(W8.drew.setCell ⟨gq,2,none⟩ (.slice B2 x.flying.length e2)).cell? ⟨w.heap.size+1,2,none⟩=_/\(W8.drew.setCell ⟨gq,2,none⟩ (.slice B2 x.flying.length e2)).cell? ⟨w.heap.size+1,3,none⟩=_/\(W8.drew.setCell ⟨gq,2,none⟩ (.slice B2 x.flying.length e2)).cell? ⟨w.heap.size+1,4,none⟩=_:=⟨(zAx Kb).trans d2,(zAx Kb).trans d3,(zAx Kb).trans d4⟩;have Vw:((W8.drew.setCell ⟨gq,2,none⟩ (.slice B2 x.flying.length e2)).setCell ⟨gq,3,none⟩ (.slice B3 x.clients.length e3)).cell? ⟨w.heap.size+1,2,none⟩=_/\((W8.drew.setCell ⟨gq,2,none⟩ (.slice B2 x.flying.length e2)).setCell ⟨gq,3,none⟩ (.slice B3 x.clients.length e3)).cell? ⟨w.heap.size+1,3,none⟩=_/\((W8.drew.setCell ⟨gq,2,none⟩ (.slice B2 x.flying.length e2)).setCell ⟨gq,3,none⟩ (.slice B3 x.clients.length e3)).cell? ⟨w.heap.size+1,4,none⟩=_:=⟨(zAx Kb).trans Vv.1,(zAx Kb).trans Vv.2.1,(zAx Kb).trans Vv.2.2⟩;have Rl:(((W8.drew.setCell ⟨gq,2,none⟩ (.slice B2 x.flying.length e2)).setCell ⟨gq,3,none⟩ (.slice B3 x.clients.length e3)).setCell ⟨gq,4,none⟩ (.slice B4 x.told.length e4)).cell? ⟨w.heap.size+1,2,none⟩=_/\(((W8.drew.setCell ⟨gq,2,none⟩ (.slice B2 x.flying.length e2)).setCell ⟨gq,3,none⟩ (.slice B3 x.clients.length e3)).setCell ⟨gq,4,none⟩ (.slice B4 x.told.length e4)).cell? ⟨w.heap.size+1,3,none⟩=_/\(((W8.drew.setCell ⟨gq,2,none⟩ (.slice B2 x.flying.length e2)).setCell ⟨gq,3,none⟩ (.slice B3 x.clients.length e3)).setCell ⟨gq,4,none⟩ (.slice B4 x.told.length e4)).cell? ⟨w.heap.size+1,4,none⟩=_:=⟨(zAx Kb).trans Vw.1,(zAx Kb).trans Vw.2.1,(zAx Kb).trans Vw.2.2⟩;have Nd:=mA Vv;have Ne:=mA Vw;have Rm:=mA Rl;clear Vv Vw Rl;refine rgF (fun w'=>w'.cell? ⟨w.heap.size+1,2,none⟩=some (.slice B2 x.flying.length e2)/\w'.cell? ⟨w.heap.size+1,3,none⟩=some (.slice B3 x.clients.length e3)/\w'.cell? ⟨w.heap.size+1,4,none⟩=some (.slice B4 x.told.length e4)) [] [0,1,2,3,4,5,6,7,8,9,10,11,12] (show World.cell? W8.drew _=_/\_ from ⟨d2,d3,d4⟩) ?_;iterate 13
      (refine tkc (v:=?_) rfl (Or.inl ⟨by rfl,?_⟩) ?_;rotate_left;(intro wv Hk;obtain ⟨s0,s1,s2⟩:=Hk;go_simp;with_reducible rfl);(try simp only [Act.put,zp1,zp2,zp3]))
     refine tkz (fun Hd=>?_);refine alF 13 (fun KA Hm=>?_);go_simp;refine Hm _ _ ⟨.inr Nd.out,?_⟩;refine puT ?_;refine tkFs 16 [14] (show _/\_ from Nd.out) (shF Hd 13) ?_;iterate 1
      (refine tkc (v:=?_) rfl (Or.inl ⟨by rfl,?_⟩) ?_;rotate_left;(intro wv Hk;skip;go_simp;with_reducible rfl);(try simp only [Act.put,zp1,zp2,zp3]))
     refine tkz (fun Hd=>?_);refine alF 15 (fun KB Hn=>?_);go_simp;refine Hn _ _ ⟨.inr Ne.out,?_⟩;refine puT ?_;refine tkFs 16 [16] (show _/\_ from Ne.out) (shF Hd 15) ?_;iterate 1
      (refine tkc (v:=?_) rfl (Or.inl ⟨by rfl,?_⟩) ?_;rotate_left;(intro wv Hk;skip;go_simp;with_reducible rfl);(try simp only [Act.put,zp1,zp2,zp3]))
     refine tkz (fun Hd=>?_);refine alF 17 (fun KC Ho=>?_);go_simp;refine Ho _ _ ⟨.inr Rm.out,zAe (by kernel_rfl) ?_ _⟩;refine puT ?_;clear Hm Hn Ho Hd Nd Ne Rm;obtain ⟨WA,hA,Gm⟩:∃ W,Below W8.heap.size W8 W/\W8.drew=W:=⟨_,(mG _ _).drew,rfl⟩;change Exit.then _ _ _ _ (((W8.drew.setCell ⟨gq,2,none⟩ (.slice B2 x.flying.length e2)).setCell ⟨gq,3,none⟩ (.slice B3 x.clients.length e3)).setCell ⟨gq,4,none⟩ (.slice B4 x.told.length e4));rw [Gm]
   have Nf:=Vh.out.out.same hA;have Ng:=Nf.set_ 2 (.slice B2 x.flying.length e2);have Vm:=Ng.set_ 3 (.slice B3 x.clients.length e3);have Rn:=Vm.set_ 4 (.slice B4 x.told.length e4);have Nh:Same [47,39,99,55,71,9,3,4,42,31] 0 W8 (((WA.setCell ⟨gq,2,none⟩ (.slice B2 x.flying.length e2)).setCell ⟨gq,3,none⟩ (.slice B3 x.clients.length e3)).setCell ⟨gq,4,none⟩ (.slice B4 x.told.length e4)) :=
    (((Same.below hA).trans (Same.set_ Nf (mE _) (by decide) 2 _)).trans (Same.set_ Ng (mE _) (by decide) 3 _)).trans (Same.set_ Vm (mE _) (by decide) 4 _)
   have Ni:w.heap.size<=gq:=by omega
   have Vd:=(((Vh.out.low.trans (hA.mono Vh.out.low.size)).setCell (p:=⟨gq,2,none⟩) Ni (.slice B2 x.flying.length e2)).setCell (p:=⟨gq,3,none⟩) Ni (.slice B3 x.clients.length e3)).setCell (p:=⟨gq,4,none⟩) Ni (.slice B4 x.told.length e4);have Gn:w.heap.size≠gq:=by omega
   have Vx:=Vh.out.res.same hA;obtain ⟨W9,Vc⟩:=mJ ((((WA.setCell ⟨gq,2,none⟩ (.slice B2 x.flying.length e2)).setCell ⟨gq,3,none⟩ (.slice B3 x.clients.length e3)).setCell ⟨gq,4,none⟩ (.slice B4 x.told.length e4)));have Hu:Blk W9 w.heap.size 30 #[.slice none 0 0,.slice none 0 0,.slice none 0 0,.slice none 0 0,.slice none 0 0,.slice none 0 0]:=by
    rw [Vc];exact ((Vx.far (p:=⟨gq,2,none⟩) Gn _).far (p:=⟨gq,3,none⟩) Gn _).far (p:=⟨gq,4,none⟩) Gn _
   have Kj:Blk W9 gq 30 #[.slice O0 x.replicas.length o0,.slice O1 x.slots.length o1,.slice B2 x.flying.length e2,.slice B3 x.clients.length e3,.slice B4 x.told.length e4,.slice Ac codes.length cc]:=by
    rw [Vc];exact Rn
   rw [<- Vc] at Nh Vd ⊢;obtain ⟨y0,y1,y2,y3,y4,y5⟩:=cz6 Kj;obtain ⟨r0,r1,r2,r3,r4,r5⟩:=cz6 Hu;have rz:=Hu.frozen;have rl:=Hu.lt;have yl:=Kj.lt;have H9:=mA (mB Nh (mB Vd (mB Hu Gn)));clear Nf Ng Vm Rn Nh Vd Vx Hu Kj Vc hA Gm d2 d3 d4 z2 z3 z4 zz zl Kb;go_wp2
   refine bodyPost_ret (v:=.tuple #[.agg #[.slice O0 x.replicas.length o0,.slice O1 x.slots.length o1,.slice B2 x.flying.length e2,.slice B3 x.clients.length e3,.slice B4 x.told.length e4,.slice Ac codes.length cc],.int .i64 0]) (by simp [results,Tryz.results4,Tryz.results5,go_sem,r0,r1,r2,r3,r4,r5]) rfl ?_;have hs:=H9.out.1.trans (zXx H9.out.2.2.1 (.slice O0 x.replicas.length o0) (.slice O1 x.slots.length o1) (.slice B2 x.flying.length e2) (.slice B3 x.clients.length e3) (.slice B4 x.told.length e4) (.slice Ac codes.length cc));have Yb:Same [47,39,99,55,71,9,3,4,42,31] 0 W7 _:=Same.trans (Vh.out.same.mono (by simp) (mC _)) hs;have Vn:codes.length<=300:=by have:=Scu.steps_codes l (Scu.netNew k);rw [HY.out] at this;have h:codes.length=l.length:=this;omega
   have hO:=zXy Rz.out Ya.out Hr.out.net Hr.out.codes Vn hs Yb;have hL:=zSm H9.out.2.1 (mC _) (.slice O0 x.replicas.length o0) (.slice O1 x.slots.length o1) (.slice B2 x.flying.length e2) (.slice B3 x.clients.length e3) (.slice B4 x.told.length e4) (.slice Ac codes.length cc);exact ⟨⟨_,_,_,_,_,_,rfl,hO⟩,hL⟩
end Go.Proofs.YtlngfbngnnepiaaGreat
