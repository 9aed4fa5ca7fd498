/- Part 42: words and walks under the laws of the whole. -/
import Derived.Test.YtlngfbngnnepiaaGreatZZ37
import Derived.Test.YtlngfbngnnepiaaGreatZZ41
set_option linter.unusedVariables false
set_option linter.unusedSimpArgs false
set_option maxHeartbeats 4000000
set_option maxRecDepth 100000
namespace Go.Proofs.YtlngfbngnnepiaaGreat
open Go.RowKit
theorem IsStrs.take {w:World} {B:Nat} {A:Option Addr} {n c:Nat} {xs:List Scu.Str} (h:IsStrs w B (.slice A n c) xs) {k:Nat} (hk:k<=xs.length):IsStrs w B (.slice A k c) (xs.take k):=by
 obtain ⟨⟨A',c',e,hc,hr⟩,h2,h3⟩:=h;cases e
 have hl:(xs.take k).length=k:=by rw [List.length_take];omega
 refine ⟨⟨A,c,by rw [hl],by omega,?_⟩,by rw [hl];omega,fun s hs=>h3 s (List.mem_of_mem_take hs)⟩;rw [List.map_take];exact hr.take k
abbrev fPlay:Bool->FuncId
 | false=>77
 | true=>37
theorem zWe (s:Bool) (A:Option Addr) (n c:Nat) (l:List Scu.Str) (w:World) (B:Nat) (hv:IsStrs w B (.slice A n c) l) (st:Scu.State) (er:Int) (h:Scu.play l=(st,er)) :
 Calls Tryz.prog (fPlay s) #[.slice A n c] w fun e w'=>(∃ A0 n0 c0 A1 n1 c1 A2 c2,e=.returned (.tuple #[.agg #[.slice A0 n0 c0,.slice A1 n1 c1,.slice A2 st.lasts.length c2],.int .i64 er])/\IsState w' 0 (.slice A0 n0 c0) (.slice A1 n1 c1) (.slice A2 st.lasts.length c2) st)/\Below w.heap.size w w':=by
 have:Calls Tryz.prog (fPlay s) #[.slice A n c] w fun e w'=>AppRet w' (Scu.play l).1 (Scu.play l).2 e/\Below w.heap.size w w':=by
  cases s
  ·exact zZn (.slice A n c) l w B hv
  exact zVn (.slice A n c) l w B hv
 rw [h] at this;refine this.mono ?_;rintro e w' ⟨⟨nv,sv,lv,rfl,hs⟩,hb⟩;obtain ⟨A0,n0,c0,rfl⟩:=hs.vol.now.form;obtain ⟨A1,n1,c1,rfl⟩:=hs.vol.snaps.form;obtain ⟨A2,c2,rfl,_⟩:=hs.lasts.ex;exact ⟨⟨_,_,_,_,_,_,_,_,rfl,hs⟩,hb⟩
theorem zPi (W:World) (t:Scu.Told):Src1 (W.alloc (.cells (toldV t).toArray 71)) 9 (.slice (some ⟨W.heap.size,0,none⟩) 1 1) 1 (toldV t):=by
 refine ⟨rfl,.inr ⟨_,_,rfl,fun j v hj=>?_⟩⟩;rw [zHv,(Blk.new W 71 (toldV t).toArray).cell j];simpa using hj
theorem zPj (t:Scu.Told):∀ v ∈ toldV t,v.oneCell'=true:=by
 intro v hv;simp only [toldV,List.mem_cons,List.not_mem_nil,or_false] at hv
 rcases hv with rfl | rfl | rfl | rfl | rfl | rfl | rfl | rfl | rfl <;> rfl
theorem zFx {w w':World} {g:Nat} {t:TypeId} {cs:Array Value} {Ts:List TypeId} (hB:Blk w g t cs) (hs:Same Ts 0 w w') (ht:t ∈ Ts) (i:Nat):w'.cell? ⟨g,i,none⟩=w.cell? ⟨g,i,none⟩ :=
 World.cell?_of_block (hs.keep g hB.lt (.inr ⟨_,_,_,ht,hB⟩))
theorem zSs {w:World} {g o n:Nat} (h:w.there g o n) (j m:Nat) (hj:j+m<=n):w.there g (o+j) m:=fun i hi=>by
 have:=h (j+i) (by omega);rwa [<- Nat.add_assoc] at this
theorem rgS {w w':World} {g o:Nat} {t:TypeId} {cs:Array Value} {l:List Value} {Ts:List TypeId} (H:w.rangeAt g o l) (hB:Blk w g t cs) (hs:Same Ts 0 w w') (ht:t ∈ Ts):w'.rangeAt g o l:=fun j v hj=>(zFx hB hs ht (o+j)).trans (H j v hj)
theorem there6 {W:World} {g o:Nat} (h:W.there g o 8):∃ u2 u3 u4 u5 u6 u7,(W.cell? ⟨g,o+2,none⟩=some u2/\W.cell? ⟨g,o+3,none⟩=some u3/\W.cell? ⟨g,o+4,none⟩=some u4/\W.cell? ⟨g,o+5,none⟩=some u5/\W.cell? ⟨g,o+6,none⟩=some u6/\W.cell? ⟨g,o+7,none⟩=some u7)/\W.frozen? ⟨g,o+2,none⟩=false/\W.frozen? ⟨g,o+3,none⟩=false/\W.frozen? ⟨g,o+4,none⟩=false/\W.frozen? ⟨g,o+5,none⟩=false/\W.frozen? ⟨g,o+6,none⟩=false/\W.frozen? ⟨g,o+7,none⟩=false:=by
 have hs:=fun j hj=>Option.isSome_iff_exists.1 (h j hj).1
 obtain ⟨u2,h2⟩:=hs 2 (by decide);obtain ⟨u3,h3⟩:=hs 3 (by decide);obtain ⟨u4,h4⟩:=hs 4 (by decide);obtain ⟨u5,h5⟩:=hs 5 (by decide);obtain ⟨u6,h6⟩:=hs 6 (by decide);obtain ⟨u7,h7⟩:=hs 7 (by decide);exact ⟨u2,u3,u4,u5,u6,u7,⟨h2,h3,h4,h5,h6,h7⟩,(h 2 (by decide)).2,(h 3 (by decide)).2,(h 4 (by decide)).2,(h 5 (by decide)).2,(h 6 (by decide)).2,(h 7 (by decide)).2⟩
theorem zR5 {P:Prop} (h:P:=by
 go_wp2
 go_ret
 exact ⟨zAb (zAd HE.out.2.symm),by rw [HE.out.1];exact HS.out.net.e,HS.out.fr⟩):P:=h
theorem by_1 (s:Bool) (a:Scu.Act) (w:World) (base gx:Nat) (x:Scu.Net) (rv sv fv cv tv:Value) (hN:NetG s w base gx x rv sv fv cv tv) (hb:base<=w.heap.size) (n:Nat) (hC:Scu.Came n x) (hn:n<=900) (hk:a.kind=1\/a.kind=2\/a.kind=3) (y:Scu.Net) (f:Int) (hy:Scu.actBy x a=(y,f)) (hq:(a.c < 0\/(x.clients.length:Int)<=a.c)\/a.kind=1):Calls Tryz.prog (fBy s) #[.pointer (some ⟨gx,0,none⟩),.agg #[.int .i64 a.kind,.int .i64 a.c,.int .i64 a.r,.int .i64 a.k,.int .i64 a.n,.int .i64 a.op.kind,.int .i64 a.op.at_,.int .i64 a.op.snap,.string a.op.data]] w fun e w'=>e=.returned (.int .i64 f)/\NetGE s w' base gx y/\Fr base w w':=by
 obtain ⟨i0,h0⟩:=mK (decide (a.c < 0));obtain ⟨i1,h1⟩:=mK (decide ((x.clients.length:Int)<=a.c));have Ho:=zEs h0 h1 (hi:=(x.clients.length:Int) - 1) (by omega);have Ke:(x.clients.length:Int)<=4:=by have:=hC.few;omega
 obtain ⟨B0,e0,B1,e1,B2,e2,B3,e3,B4,e4,rfl,rfl,rfl,rfl,rfl⟩:=hN.forms;have Hi:=zAa w (.cells (aN a) 57);have HS:=mA (show AcS s w (w.alloc (.cells (aN a) 57)) base gx x a _ _ _ _ _ from ⟨hN.below Hi,Blk.new w 57 (aN a),Fr.of Hi hb,hb⟩);have HC:=mA hC;unfold Scu.actBy at hy;by_cases hr:a.c < 0\/(x.clients.length:Int)<=a.c
 ·have HE:=mA (show y=x/\f=6 by rw [if_pos hr] at hy;exact pr2 hy);have Kb:i0=true\/i0=false/\i1=true:=by rw [<- h0,<- h1];simp only [decide_eq_true_eq,decide_eq_false_iff_not];omega
  clear hy hr hq hC hN Hi;rcases Kb with rfl | ⟨rfl,rfl⟩;all_goals
   cases s
   case' false =>
    change Calls Tryz.prog 23 _ _ _;go_enter Tryz.func23,Tryz.ntmps23
   case' true =>
    change Calls Tryz.prog 15 _ _ _;go_enter Tryz.func15,Tryz.ntmps15
   all_goals
    go_upto_region 1 with fail
    obtain ⟨Wd,He⟩:=mJ (w.alloc (.cells (aN a) 57));rw [<- He] at HS ⊢;clear He;obtain ⟨a0,a1,a2,a3,a4,a5,a6,a7,a8⟩:=cz9 HS.out.ab;have al:=HS.out.ab.lt;obtain ⟨d0,d1,d2,d3,d4⟩:=cz5 HS.out.net.box;have dl:=HS.out.net.box.lt;rcases hk with hk | hk | hk;all_goals
     rw [hk] at a0;clear hk;go_wp2_with fail
     go_quiet ((go_at_call 12;exact zBk ((zAt _ _ _ _).mono fun _ _ h=>⟨by rw [h.1,Ho],0,h.2.symm⟩)))
     go_wp2
     go_ret
     have HS:=HS.out.below (below_drewN (mG _ _) nq);exact ⟨zAb (zAd HE.out.2.symm),by rw [HE.out.1];exact HS.net.e,HS.fr⟩
 have Hp:=hq.resolve_left hr;obtain ⟨c,Hj⟩:=Int.eq_ofNat_of_zero_le (show 0<=a.c by omega);obtain ⟨rfl,rfl⟩:i0=false/\i1=false:=by rw [<- h0,<- h1];simp only [decide_eq_false_iff_not];omega
 have Hf:c < x.clients.length:=by omega
 have Kf:(c:Int) < (x.clients.length:Int):=by omega
 obtain ⟨cu,Hk⟩:=mK (x.clients[c]);have hg:x.clients.getD c Scu.cust0=cu:=by rw [mI,mH Hf];exact Hk
 have Kc:=mA (show cu.id=(c:Int)+1/\1<=cu.next/\cu.next<=901/\(cu.wait.num=0\/cu.wait.client=c+1/\1<=cu.wait.num/\cu.wait.num<=901/\Scu.opFault cu.wait.op=0)/\c < 4 by have:=hC.ids c cu (by rw [mH Hf,Hk]);omega);rw [if_neg hr,Hj,Int.toNat_natCast,hg] at hy;dsimp only at hy
 rw [Hj] at h0 h1 Ho;have Hv:=mA Hj;have Hw:=mA Hk;clear Hj hg Hk;rw [if_pos Hp] at hy;have HY:=mA hy;have Hx:=mA Hp;clear hy hr hq hC hN Hi hk Hp;cases s
 case' false =>
  change Calls Tryz.prog 23 _ _ _;go_enter Tryz.func23,Tryz.ntmps23
 case' true =>
  change Calls Tryz.prog 15 _ _ _;go_enter Tryz.func15,Tryz.ntmps15
 all_goals
  go_upto_region 1 with fail
  obtain ⟨Wd,He⟩:=mJ (w.alloc (.cells (aN a) 57));rw [<- He] at HS ⊢;clear He;obtain ⟨a0,a1,a2,a3,a4,a5,a6,a7,a8⟩:=cz9 HS.out.ab;have al:=HS.out.ab.lt;obtain ⟨d0,d1,d2,d3,d4⟩:=cz5 HS.out.net.box;have dl:=HS.out.net.box.lt;rw [Hv.out] at a1;obtain ⟨gc,cc,ec,-,Hl,Hq,Hg,-⟩:=HS.out.net.custAt Hf;obtain ⟨rfl,rfl⟩:=slq ec;rw [Hw.out] at Hq;have Hc:=mA Hq;have Hr:=mA Hg;clear ec Hq Hg;rw [Hx.out] at a0;go_wp2_with fail
  go_quiet ((go_at_call 12;exact zBk ((zAt _ _ _ _).mono fun _ _ h=>⟨by rw [h.1,Ho],0,h.2.symm⟩)))
  go_wp2_with fail
  obtain ⟨W1,Hs⟩:=mJ (Wd.drewN nq);have h1:Below Wd.heap.size Wd W1:=by rw [Hs];exact below_drewN (mG _ _) _
  rw [<- Hs];clear Hs a0 a1 a2 a3 a4 a5 a6 a7 a8 d0 d1 d2 d3 d4 al dl;obtain ⟨a0,a1,a2,a3,a4,a5,a6,a7,a8⟩:=cz9 (HS.out.below h1).ab;rw [Hv.out] at a1;have al:=(HS.out.below h1).ab.lt;obtain ⟨d0,d1,d2,d3,d4⟩:=cz5 (HS.out.below h1).net.box;have dl:=(HS.out.below h1).net.box.lt;go_quiet (fail)
  obtain ⟨W2,Ht⟩:=mJ (W1.drewN nq);rw [<- Ht];have h2:Below Wd.heap.size Wd W2:=by rw [Ht];exact below_drewN h1 _
  have HS:=mA (HS.out.below h2);have Hc:=mA (rgb h2 Hl Hc.out);have Hr:=mA (zDr Hr.out h2 Hl);have gl:gc < W2.heap.size:=mF Hl h2.size;clear Ht h1 h2 a0 a1 a2 a3 a4 a5 a6 a7 a8 d0 d1 d2 d3 d4 al dl Hl;obtain ⟨a0,a1,a2,a3,a4,a5,a6,a7,a8⟩:=cz9 HS.out.ab;have al:=HS.out.ab.lt;have v3:W2.cell? ⟨gc,c*8+3,none⟩=some (.int .i64 cu.wait.num):=Hc.out 3 _ rfl;rw [Hx.out] at a0;by_cases hw:0 < cu.wait.num
  ·have HE:=mA (show y=x/\f=12 by have h:=HY.out;rw [if_pos hw] at h;exact pr2 h);exact zR5
  ·have HY:=mA (show (if Scu.opFault a.op≠0 then (x,Scu.opFault a.op) else ({ x with clients:=x.clients.set c ⟨cu.id,cu.next+1,⟨cu.id,cu.next,a.op⟩⟩ },0))=(y,f) by have h:=HY.out;rw [if_neg hw] at h;exact h);go_wp2_with fail
   obtain ⟨fo,Hy⟩:=mK (Scu.opFault a.op);first
   | refine (zGu a.op W2).mono ?_
   | refine (zGv a.op W2).mono ?_
   rintro en w3 ⟨rfl,h3⟩;rw [Hy] at HY ⊢;have HS:=mA (HS.out.below h3);have Hc:=mA (rgb h3 gl Hc.out);have Hd:=zDr Hr.out h3.drew gl;have gl3:gc < w3.heap.size:=mF gl h3.size;clear h3 Hy a0 a1 a2 a3 a4 a5 a6 a7 a8 al v3 gl;by_cases Hm:fo=0
   ·subst Hm;have HE:=mA (show y = { x with clients:=x.clients.set c ⟨cu.id,cu.next+1,⟨cu.id,cu.next,a.op⟩⟩ }/\f=0 by have h:=HY.out;rw [if_neg (by simp)] at h;exact pr2 h);go_wp2_with fail
    have Hu:Below w3.heap.size w3 w3.drew:=(mG _ _).drew;refine rgF (Below w3.heap.size w3) [14] [0,1,2,3,4,5,6,7,8,9,10,11,12,13] Hu ?_;iterate 14
     (refine tkc (v:=?_) rfl (Or.inl ⟨by rfl,?_⟩) ?_;rotate_left;(intro wv Hz;(obtain ⟨-,-,-,-,-,s5,s6,s7,s8⟩:=cz9 (HS.out.ab.same Hz);obtain ⟨t0,t1,-⟩:=rg8 (rgb Hz gl3 Hc.out));go_simp;with_reducible rfl);(try simp only [Act.put,zp1,zp2,zp3]))
    refine tkz (fun Kd=>?_);refine alF 14 (fun KB Ka=>?_);rw [if_pos (by rfl)];have Hb:=(HS.out.below Hu).net.putCust (k:=c) Hf 2 [.int .i64 cu.id,.int .i64 cu.next,.int .i64 a.op.kind,.int .i64 a.op.at_,.int .i64 a.op.snap,.string a.op.data] (show 2+6<=8 by decide) (u:=⟨cu.id,cu.next,⟨cu.id,cu.next,a.op⟩⟩) (by rw [Hw.out];rfl);refine wp_store_mid 53 _ _ rfl gc (c*8+2) #[.int .i64 cu.id,.int .i64 cu.next,.int .i64 a.op.kind,.int .i64 a.op.at_,.int .i64 a.op.snap,.string a.op.data] rfl rfl (zSs Hd 2 6 (by decide)) (by kernel_rfl) (all_oneCell_toArray (cs:=[.int .i64 cu.id,.int .i64 cu.next,.int .i64 a.op.kind,.int .i64 a.op.at_,.int .i64 a.op.snap,.string a.op.data]) (by intro v hv;simp only [List.mem_cons,List.not_mem_nil,or_false] at hv;rcases hv with rfl | rfl | rfl | rfl | rfl | rfl <;> rfl)) ?_;refine Ka _ _ ⟨.inl (by simp),zAe (by kernel_rfl) ?_ _⟩;refine puT ?_;obtain ⟨W4,Hn⟩:=mJ (w3.drew.setCells gc (c*8+2) [.int .i64 cu.id,.int .i64 cu.next,.int .i64 a.op.kind,.int .i64 a.op.at_,.int .i64 a.op.snap,.string a.op.data]);change Exit.then _ _ _ _ (w3.drew.setCells gc (c*8+2) [.int .i64 cu.id,.int .i64 cu.next,.int .i64 a.op.kind,.int .i64 a.op.at_,.int .i64 a.op.snap,.string a.op.data]);have u1':W4.cell? ⟨gc,c*8+1,none⟩=some (.int .i64 cu.next):=by rw [Hn];exact (World.cell?_setCells_out gc [.int .i64 cu.id,.int .i64 cu.next,.int .i64 a.op.kind,.int .i64 a.op.at_,.int .i64 a.op.snap,.string a.op.data] (c*8+2) w3.drew ⟨gc,c*8+1,none⟩ (fun _ _=>.inl (by show c*8+1 < c*8+2;omega))).trans (Hc.out 1 _ rfl)
    have Hh:World.there W4 gc (c*8) 8:=by rw [Hn];exact World.there_setCells Hd gc _ _
    rw [<- Hn] at Hb ⊢;have Kg:=(Hh 1 (by decide)).2;have Ha:=Hb.1.putCust (k:=c) (by rw [List.length_set];exact Hf) 1 [.int .i64 (cu.next+1)] (show 1+1<=8 by decide) (u:=⟨cu.id,cu.next+1,⟨cu.id,cu.next,a.op⟩⟩) (by simp only [List.getElem_set_self];rfl);dsimp only at Ha
    rw [List.set_set] at Ha;have HT:=mA (mB Ha.1.e (HS.out.fr.trans (((Fr.refl base w3).drew.trans Hb.2).trans Ha.2)));have Kh:IntKind.i64.wrap (cu.next+1)=cu.next+1:=by
     have h:=Kc.out;exact IntWalk.i64_in _ (by omega)
    have gl4:gc < W4.heap.size:=by have h2:=Hb.2.size;have:w3.drew.heap.size=w3.heap.size:=rfl;omega
    clear Hn Hb Ha Hd Hh Hu Kd Ka;go_wp2
    go_ret
    exact ⟨zAb (zAd HE.out.2.symm),by rw [HE.out.1];exact HT.out.1,HT.out.2⟩
   have Ki:(fo == 0)=false:=by simpa using Hm
   have Kj:(fo != 0)=true:=by simpa using Hm
   have HE:=mA (show y=x/\f=fo by have h:=HY.out;rw [if_pos Hm] at h;exact pr2 h);exact zR5
theorem zQ5 {P:Prop} (h:P:=by
 have Hb:=mA (show Scu.settle x r rr ms (-1)=(y,f) by have h:=HE.out;rw [if_neg (by rw [Hc];simp)] at h;exact h);subst Hc;go_wp2_with fail
 refine (zHk _ r rr _ _ _ _ _ Ao co ms (-1) _ base gx x _ _ _ _ _ HI.out.net (mD hb HI.out.fr.size) Ho (by rw [HC.out.rlen.2];exact Ku) HC.out.rlen.1 HQ.out.2.2.1 HQ.out.2.2.2.1 (zFw HS.out.net HQ.out.2.2.2.2.1) HC.out.fly.1 y f Hb.out).mono ?_;rintro en w9 ⟨rfl,Hs,Ht⟩;have HT:=mA (mB Hs (HI.out.fr.trans Ht));clear Hs Ht;go_wp2
 go_ret
 exact ⟨zAb rfl,HT.out.1,HT.out.2⟩):P:=h
theorem zS5 {P:Prop} (h:P:=by
 have Vg:(fr != 0)=true:=by simpa using Hc
 have Hb:=mA (show y=x/\f=fr by have h:=HE.out;rw [if_pos Hc] at h;exact pr2 h);clear Hc;go_wp2
 go_ret
 exact ⟨zAb (zAd Hb.out.2.symm),by rw [Hb.out.1];exact HI.out.net.e,HI.out.fr⟩):P:=h
theorem zU5 {P:Prop} (h:P:=by
 have HE:=mA (show y=x/\f=9 by have h:=HY.out;rw [if_pos hw] at h;exact pr2 h);exact zR5):P:=h
theorem by_2 (s:Bool) (a:Scu.Act) (w:World) (base gx:Nat) (x:Scu.Net) (rv sv fv cv tv:Value) (hN:NetG s w base gx x rv sv fv cv tv) (hb:base<=w.heap.size) (n:Nat) (hC:Scu.Came n x) (hn:n<=900) (hk:a.kind=2) (hr:¬ (a.c < 0\/(x.clients.length:Int)<=a.c)) (y:Scu.Net) (f:Int) (hy:Scu.actBy x a=(y,f)):Calls Tryz.prog (fBy s) #[.pointer (some ⟨gx,0,none⟩),.agg #[.int .i64 a.kind,.int .i64 a.c,.int .i64 a.r,.int .i64 a.k,.int .i64 a.n,.int .i64 a.op.kind,.int .i64 a.op.at_,.int .i64 a.op.snap,.string a.op.data]] w fun e w'=>e=.returned (.int .i64 f)/\NetGE s w' base gx y/\Fr base w w':=by
 obtain ⟨i0,h0⟩:=mK (decide (a.c < 0));obtain ⟨i1,h1⟩:=mK (decide ((x.clients.length:Int)<=a.c));have Kq:=zEs h0 h1 (hi:=(x.clients.length:Int) - 1) (by omega);obtain ⟨j0,g0⟩:=mK (decide (a.r < 0));obtain ⟨j1,g1⟩:=mK (decide (3<=a.r));have Kf:=zEs g0 g1 (hi:=2) rfl;have Vl:(x.clients.length:Int)<=4:=by have:=hC.few;omega
 obtain ⟨B0,e0,B1,e1,B2,e2,B3,e3,B4,e4,rfl,rfl,rfl,rfl,rfl⟩:=hN.forms;have Kg:=zAa w (.cells (aN a) 57);have HS:=mA (show AcS s w (w.alloc (.cells (aN a) 57)) base gx x a _ _ _ _ _ from ⟨hN.below Kg,Blk.new w 57 (aN a),Fr.of Kg hb,hb⟩);have HC:=mA hC;unfold Scu.actBy at hy;obtain ⟨c,Hu⟩:=Int.eq_ofNat_of_zero_le (show 0<=a.c by omega);obtain ⟨rfl,rfl⟩:i0=false/\i1=false:=by rw [<- h0,<- h1];simp only [decide_eq_false_iff_not];omega
 have Kh:c < x.clients.length:=by omega
 have Vm:(c:Int) < (x.clients.length:Int):=by omega
 obtain ⟨cu,Hv⟩:=mK (x.clients[c]);have hg:x.clients.getD c Scu.cust0=cu:=by rw [mI,mH Kh];exact Hv
 have Vb:=mA (show cu.id=(c:Int)+1/\1<=cu.next/\cu.next<=901/\(cu.wait.num=0\/cu.wait.client=c+1/\1<=cu.wait.num/\cu.wait.num<=901/\Scu.opFault cu.wait.op=0)/\c < 4 by have:=hC.ids c cu (by rw [mH Kh,Hv]);omega);rw [if_neg hr,Hu,Int.toNat_natCast,hg] at hy;dsimp only at hy
 rw [Hu] at h0 h1 Kq;have Kr:=mA Hu;have Vc:=mA Hv;clear Hu hg Hv;rw [if_neg (show ¬ a.kind=1 by rw [hk];decide)] at hy;have HY:=mA hy;have Hh:=mA hk;clear hy hr hC hN Kg hk;cases s
 case' false =>
  change Calls Tryz.prog 23 _ _ _;go_enter Tryz.func23,Tryz.ntmps23
 case' true =>
  change Calls Tryz.prog 15 _ _ _;go_enter Tryz.func15,Tryz.ntmps15
 all_goals
  go_upto_region 1 with fail
  obtain ⟨Wd,Ks⟩:=mJ (w.alloc (.cells (aN a) 57));rw [<- Ks] at HS ⊢;clear Ks;obtain ⟨a0,a1,a2,a3,a4,a5,a6,a7,a8⟩:=cz9 HS.out.ab;have al:=HS.out.ab.lt;obtain ⟨d0,d1,d2,d3,d4⟩:=cz5 HS.out.net.box;have dl:=HS.out.net.box.lt;rw [Kr.out] at a1;obtain ⟨gc,cc,ec,-,Hw,Ki,Hm,-⟩:=HS.out.net.custAt Kh;obtain ⟨rfl,rfl⟩:=slq ec;rw [Vc.out] at Ki;have Hn:=mA Ki;have Kt:=mA Hm;clear ec Ki Hm;rw [Hh.out] at a0;go_wp2_with fail
  go_quiet ((go_at_call 12;exact zBk ((zAt _ _ _ _).mono fun _ _ h=>⟨by rw [h.1,Kq],0,h.2.symm⟩)))
  go_wp2_with fail
  obtain ⟨W1,Kj⟩:=mJ (Wd.drewN nq);have h1:Below Wd.heap.size Wd W1:=by rw [Kj];exact below_drewN (mG _ _) _
  rw [<- Kj];clear Kj a0 a1 a2 a3 a4 a5 a6 a7 a8 d0 d1 d2 d3 d4 al dl;obtain ⟨a0,a1,a2,a3,a4,a5,a6,a7,a8⟩:=cz9 (HS.out.below h1).ab;rw [Kr.out] at a1;have al:=(HS.out.below h1).ab.lt;obtain ⟨d0,d1,d2,d3,d4⟩:=cz5 (HS.out.below h1).net.box;have dl:=(HS.out.below h1).net.box.lt;go_quiet (fail)
  obtain ⟨W2,Kk⟩:=mJ (W1.drewN nq);rw [<- Kk];have h2:Below Wd.heap.size Wd W2:=by rw [Kk];exact below_drewN h1 _
  have HS:=mA (HS.out.below h2);have Hn:=mA (rgb h2 Hw Hn.out);have Kt:=mA (zDr Kt.out h2 Hw);have gl:gc < W2.heap.size:=mF Hw h2.size;clear Kk h1 h2 a0 a1 a2 a3 a4 a5 a6 a7 a8 d0 d1 d2 d3 d4 al dl Hw;obtain ⟨a0,a1,a2,a3,a4,a5,a6,a7,a8⟩:=cz9 HS.out.ab;have al:=HS.out.ab.lt;have v3:W2.cell? ⟨gc,c*8+3,none⟩=some (.int .i64 cu.wait.num):=Hn.out 3 _ rfl;rw [Hh.out] at a0;by_cases hw:cu.wait.num=0
  ·exact zU5
  have Vn:(cu.wait.num == 0)=false:=by simpa using hw
  by_cases Hx:a.r < 0\/3<=a.r
  ·have HE:=mA (show y=x/\f=6 by have h:=HY.out;rw [if_neg hw,if_pos Hx] at h;exact pr2 h);have Vd:j0=true\/j0=false/\j1=true:=by rw [<- g0,<- g1];simp only [decide_eq_true_eq,decide_eq_false_iff_not];omega
   clear Hx hw;rcases Vd with rfl | ⟨rfl,rfl⟩;all_goals
    go_wp2_with (first | (go_at_call 12;refine (zAt _ _ _ _).mono ?_;rintro en w9 ⟨rfl,rfl⟩;rw [Kf];dsimp only [Bool.not_true,Bool.not_false,Bool.false_and,Bool.and_false,Bool.and_true]) | fail)
    go_ret
    exact ⟨zAb (zAd HE.out.2.symm),by rw [HE.out.1];exact HS.out.net.e,HS.out.fr⟩
  obtain ⟨r,Hy⟩:=Int.eq_ofNat_of_zero_le (show 0<=a.r by omega);obtain ⟨rfl,rfl⟩:j0=false/\j1=false:=by rw [<- g0,<- g1];simp only [decide_eq_false_iff_not];omega
  have Ho:r < x.replicas.length:=by have:=HC.out.rlen.1;omega
  have Ku:r < 3:=by omega
  have Vo:(r:Int) < (x.replicas.length:Int):=by omega
  obtain ⟨rk,Hz⟩:=mK (x.replicas[r]);have Ve:=mA (by have h:=HY.out;rw [if_neg hw,if_neg Hx,Hy,Int.toNat_natCast,show x.replicas.getD r Scu.replica0=rk by rw [mI,mH Ho];exact Hz] at h;exact h);rw [Hy] at g0 g1 Kf a2;have HK:=mA Hy;obtain ⟨gr,cr,lu0,Vp,wv0,gv0,nv0,er,-,gl2,Ka,Kl,-⟩:=HS.out.net.repAt Ho;obtain ⟨rfl,rfl⟩:=slq er;rw [Hz] at Kl Ka;obtain ⟨F0,p0,q0,F1,q1,F2,q2,F3,q3,F4,q4,rfl,rfl,rfl,rfl,rfl⟩:=Ka.forms;have Kv:=mA Ka;have Kw:=mA Kl;have Kx:=mA (HC.out.rf rk (Hz ▸ List.getElem_mem Ho));have Km:=mA gl2;clear Kl Ka er Hz Hy Hx gl2;obtain ⟨se,Kn⟩:∃ se,Scu.encode cu.wait=(se,0)/\se.size<=R47:=by
   have h:=Vb.out;have h4:=h.2.2.2.1.resolve_left hw;have hf:Scu.reqFault cu.wait=0:=by
    unfold Scu.reqFault;rw [if_neg (by omega)];exact h4.2.2.2
   refine ⟨Scu.reqBytes cu.wait,if_neg (by simp [hf]),?_⟩;have:=Scu.reqBytes_size cu.wait;have:=(Scu.opFault_ok (Scu.reqFault_ok hf).2.2.2.2).2.2.2.2.2.2.1;unfold R47;omega
  obtain ⟨rr,ms,fr,hd⟩:∃ rr ms fr,Scu.take rk se=(rr,ms,fr):=⟨_,_,_,rfl⟩;have HE:=mA (show (if fr≠0 then (x,fr) else Scu.settle x r rr ms (-1))=(y,f) by have h:=Ve.out;rw [if_neg (show ¬ a.kind=3 by rw [Hh.out];decide),Kn.1] at h;dsimp only at h;rw [if_neg (by simp),hd] at h;exact h);have Kb:=mA Kn;have HD:=mA hd;obtain ⟨v0,v1,v2,v3,v4,v5,v6,v7⟩:=rg8 Hn.out;clear Kn hd hw
 ·have HA:=mA (fun W' (h:Below W2.heap.size W2 W')=>zWd true _ _ _ _ _ rk W' 0 (Kv.out.below h) rr ms fr se Kb.out.2 HD.out);clear v0 v1 v2 v4 v5 v6 v7;go_wp2_with (first | (go_at_call 12;refine (zAt _ _ _ _).mono ?_;rintro en w9 ⟨rfl,rfl⟩;rw [Kf];dsimp only [Bool.not_true,Bool.not_false,Bool.false_and,Bool.and_false,Bool.and_true]) | fail)
  have Hd:Below W2.heap.size W2 W2.drew:=(mG _ _).drew;refine rgF (Below W2.heap.size W2) [] [0,1,2,3,4,5,6,7] Hd ?_;iterate 8
   (refine tkc (v:=?_) rfl (Or.inl ⟨by rfl,?_⟩) ?_;rotate_left;(intro wv Hf;(obtain ⟨d0,-⟩:=cz3 (HS.out.net.box.same Hf);obtain ⟨-,-,a2,-⟩:=cz9 (HS.out.ab.same Hf);rw [HK.out] at a2;obtain ⟨p0,p1,p2,p3,p4,p5,p6,p7,p8,p9⟩:=rg10 (rgb Hf Km.out Kw.out));go_simp;with_reducible rfl);(try simp only [Act.put,zp1,zp2,zp3]))
  refine tkz (fun Hp=>?_);refine alF 8 (fun KA Hi=>?_);go_simp;have Ha:=Hd.alloc (mC _) (.cells zR 47);refine Hi _ _ ⟨.inr Ha,?_⟩;refine puT ?_;refine alF 9 (fun KB Hj=>?_);rw [if_pos (by rfl)];have hz:=Blk.new' (w:=W2.drew) (g:=W2.heap.size) (t:=47) (cs:=zR) rfl;refine wp_store_mid 47 _ _ rfl W2.heap.size 0 (rN rk F0 p0 q0 F1 q1 F2 q2 F3 q3 F4 q4) rfl rfl (zBu hz) (by kernel_rfl) (by simp [Value.oneCell']) ?_;have He:=zAr (mC W2.heap.size) ((rN rk F0 p0 q0 F1 q1 F2 q2 F3 q3 F4 q4)).toList 0 _ _ Ha;refine Hj _ _ ⟨.inr He,genF fun W3 Hq=>zAe (by kernel_rfl) ?_ _⟩;have Hk:=mA (show Below W2.heap.size W2 W3/\Blk W3 W2.heap.size 47 (rN rk F0 p0 q0 F1 q1 F2 q2 F3 q3 F4 q4) by rw [Hq];exact ⟨He,zHu (xs:=[.int .i64 0,.int .i64 0,.int .i64 0,.bool false,.slice none 0 0,.int .i64 0,.slice none 0 0,.slice none 0 0,.slice none 0 0,.slice none 0 0]) hz rfl⟩);clear Hq Hd Ha He hz Hi Hj a0 a1 a2 a3 a4 a5 a6 a7 a8 al v3;refine puT ?_;change Exit.then _ _ _ _ W3;obtain ⟨b0,b1,b2,b3,b4,b5,b6,b7,b8,b9⟩:=cz10 Hk.out.2;have bl9:=Hk.out.2.lt;go_wp2_with fail
  obtain ⟨bl,Ko⟩:=mK (Scu.leads rk);refine (zEr _ _ _ _ _ rk (Scu.rep_lk Kx.out).1 W3 bl Ko).mono ?_;rintro en w4 ⟨rfl,h4⟩;have Hl:=mA (mB (Hk.out.1.trans (h4.mono Hk.out.1.size)) (Hk.out.2.same h4));have Vf:=mA Ko;have Kc:=mA (HS.out.below Hl.out.1);obtain ⟨a0,a1,a2,a3,a4,a5,a6,a7,a8⟩:=cz9 Kc.out.ab;rw [Hh.out] at a0;have al:=Kc.out.ab.lt;clear b0 b1 b2 b3 b4 b5 b6 b7 b8 b9 bl9 h4 Ko Hk;cases bl with
  | false =>
    have Hb:=mA (show y=x/\f=14 by
     have h:=HE.out;have hd:=HD.out;unfold Scu.take at hd;rw [if_neg (by rw [Kx.out];simp),if_pos Vf.out] at hd;rw [<- (Prod.mk.inj (Prod.mk.inj hd).2).2,if_pos (by decide)] at h;exact pr2 h)
    go_wp2
    go_ret
    exact ⟨zAb (zAd Hb.out.2.symm),by rw [Hb.out.1];exact Kc.out.net.e,Kc.out.fr⟩
  | true =>
    obtain ⟨v0,v1,v2,v3,v4,v5,v6,v7⟩:=rg8 (rgb Hl.out.1 gl Hn.out);have gl4:=mF gl Hl.out.1.size;go_wp2_with fail
    have Hg:=zMg cu.wait w4;rw [Kb.out.1] at Hg;refine Hg.mono ?_;rintro en w5 ⟨rfl,h5⟩;have Hr:=Hl.out.1.trans (h5.mono Hl.out.1.size);have Ky:=mA (Hl.out.2.same h5);clear a0 a1 a2 a3 a4 a5 a6 a7 a8 al v0 v1 v2 v3 v4 v5 v6 v7 h5 Hg;obtain ⟨b0,b1,b2,b3,b4,b5,b6,b7,b8,b9⟩:=cz10 Ky.out;have bl9:=Ky.out.lt;go_wp2_with fail
    refine (HA.out _ Hr).mono ?_;rintro en x1 ⟨⟨E0,m0,z0,E1,z1,E2,z2,E3,z3,E4,z4,Ao,co,rfl,hq⟩,k1⟩;clear b0 b1 b2 b3 b4 b5 b6 b7 b8 b9 bl9;go_upto_region 26 with fail
    obtain ⟨W6,Kd⟩:=mJ (x1.alloc (.cells (rN rr E0 m0 z0 E1 z1 E2 z2 E3 z3 E4 z4) 47));rw [<- Kd];have Ke:Below x1.heap.size x1 W6:=by rw [Kd];exact zAa _ _
    have hx:=Hr.trans (k1.mono Hr.size);have HQ:=mA (show Below W2.heap.size W2 W6/\Blk W6 x1.heap.size 47 (rN rr E0 m0 z0 E1 z1 E2 z2 E3 z3 E4 z4)/\_/\_/\_/\True from ⟨hx.trans (Ke.mono hx.size),by rw [Kd];exact Blk.new _ _ _,hq.1.below Ke,IsMs.below hq.2.1 Ke,fun g hg=>mD Hr.size (hq.2.2 g hg),trivial⟩);clear Kd Ke hx hq Hr k1;have HI:=mA (HS.out.below HQ.out.1);obtain ⟨b0,b1,b2,b3,b4,b5,b6,b7,b8,b9⟩:=cz10 HQ.out.2.1;have bl:=HQ.out.2.1.lt;obtain ⟨a0,a1,a2,a3,a4,a5,a6,a7,a8⟩:=cz9 HI.out.ab;rw [HK.out] at a2;rw [Hh.out] at a0;have al:=HI.out.ab.lt;by_cases Hc:fr=0
    ·exact zQ5
    ·exact zS5
 have HA:=mA (fun W' (h:Below W2.heap.size W2 W')=>zWd false _ _ _ _ _ rk W' 0 (Kv.out.below h) rr ms fr se Kb.out.2 HD.out);go_wp2_with fail
 have Hg:=zTg cu.wait W2;rw [Kb.out.1] at Hg;refine Hg.mono ?_;rintro en Wd ⟨rfl,h3⟩;have HS:=mA (HS.out.below h3);have Vh:=mA (rgb h3 Km.out Kw.out);have gl:gr < Wd.heap.size:=mF Km.out h3.size;have HL:=mA h3;clear a0 a1 a2 a3 a4 a5 a6 a7 a8 al v0 v1 v2 v3 v4 v5 v6 v7 h3 Hg;go_wp2_with fail
 have Hd:Below Wd.heap.size Wd Wd.drew:=(mG _ _).drew;refine rgF (Below Wd.heap.size Wd) [] [0,1,2,3,4,5,6,7,8] Hd ?_;iterate 9
  (refine tkc (v:=?_) rfl (Or.inl ⟨by rfl,?_⟩) ?_;rotate_left;(intro wv Hf;(obtain ⟨d0,-⟩:=cz3 (HS.out.net.box.same Hf);obtain ⟨-,-,a2,-⟩:=cz9 (HS.out.ab.same Hf);rw [HK.out] at a2;obtain ⟨p0,p1,p2,p3,p4,p5,p6,p7,p8,p9⟩:=rg10 (rgb Hf gl Vh.out));go_simp;with_reducible rfl);(try simp only [Act.put,zp1,zp2,zp3]))
 refine tkz (fun Hp=>?_);refine al2 9 14 (fun KA Hi=>?_) (fun KA Hi=>?_);case' _ =>
  go_simp;have Kz:=Hd;first
  | refine (HB.out _ (HL.out.trans (Hd.mono HL.out.size))).mono ?_
  | refine (HA.out _ (HL.out.trans (Hd.mono HL.out.size))).mono ?_
  rintro en x1 ⟨⟨E0,m0,z0,E1,z1,E2,z2,E3,z3,E4,z4,Ao,co,rfl,hq⟩,k1⟩;have Ha:=Hd.trans k1;refine Hi _ _ ⟨.inr Ha,?_⟩;refine puT ?_;refine tkFs 16 [10,11,12,13] Ha (shF Hp 9) ?_;iterate 4
   (refine tkc (v:=?_) rfl (Or.inl ⟨by rfl,?_⟩) ?_;rotate_left;(intro wv Hf;skip;go_simp;with_reducible rfl);(try simp only [Act.put,zp1,zp2,zp3]))
  refine tkz (fun Hp=>?_);refine alF 14 (fun KB Hj=>?_);go_simp;have He:=Ha.alloc Ha.size (.cells zR 47);refine Hj _ _ ⟨.inr He,?_⟩;refine puT ?_;have HZ:=mA (Blk.new x1 47 zR);have Va:=zAa x1 (.cells zR 47);have Kp:=Ha.size
 rotate_left
 case' _ =>
  go_simp;have Ha:=Hd.alloc (mC _) (.cells zR 47);have Kz:=Ha;refine Hi _ _ ⟨.inr Ha,?_⟩;refine puT ?_;refine alF 9 (fun KB Hj=>?_);go_simp;first
  | refine (HB.out _ (HL.out.trans (Ha.mono HL.out.size))).mono ?_
  | refine (HA.out _ (HL.out.trans (Ha.mono HL.out.size))).mono ?_
  rintro en x1 ⟨⟨E0,m0,z0,E1,z1,E2,z2,E3,z3,E4,z4,Ao,co,rfl,hq⟩,k1⟩;have HZ:=mA ((Blk.new' (w:=Wd.drew) (g:=Wd.heap.size) (t:=47) (cs:=zR) rfl).same k1);have He:=Ha.trans (k1.mono Ha.size);refine Hj _ _ ⟨.inr He,?_⟩;refine puT ?_;refine tkFs 16 [10,11,12,13] He (shF (shF Hp 14) 9) ?_;iterate 4
   (refine tkc (v:=?_) rfl (Or.inl ⟨by rfl,?_⟩) ?_;rotate_left;(intro wv Hf;skip;go_simp;with_reducible rfl);(try simp only [Act.put,zp1,zp2,zp3]))
  refine tkz (fun Hp=>?_);have Va:=mG x1.heap.size x1;have Kp:=mC Wd.heap.size
 all_goals
  have HP:=mA hq;clear hq;refine alF 15 (fun KC Vi=>?_);rw [if_pos (by rfl)];refine wp_store_mid 47 _ _ rfl _ 0 #[_,_,_,_,_,_,_,_,_,_] rfl rfl (zBu HZ.out) (by kernel_rfl) (by simp [Value.oneCell']) ?_;refine Vi _ _ ⟨.inr (zAr Kp _ 0 _ _ He),genF fun W3 Hq=>?_⟩;have HQ:=mA (boxedE Hq HP.out Kz He HZ.out Kp Va);clear Hq;refine puT ?_;refine alF 16 (fun KD Vj=>?_);go_simp;refine Vj _ _ ⟨.inr HQ.out.1,?_⟩;refine puT ?_;refine alF 17 (fun KE Vk=>?_);go_simp;refine Vk _ _ ⟨.inr HQ.out.1,zAe (by kernel_rfl) ?_ _⟩;refine puT ?_;change Exit.then _ _ _ _ W3
 all_goals
  have HI:=mA (HS.out.below HQ.out.1);obtain ⟨b0,b1,b2,b3,b4,b5,b6,b7,b8,b9⟩:=cz10 HQ.out.2.1;have bl:=HQ.out.2.1.lt;obtain ⟨a0,a1,a2,a3,a4,a5,a6,a7,a8⟩:=cz9 HI.out.ab;rw [HK.out] at a2;rw [Hh.out] at a0;have al:=HI.out.ab.lt;by_cases Hc:fr=0
  ·exact zQ5
  ·exact zS5
theorem zP5 {P:Prop} (h:P:=by
 go_simp;refine Ko _ _ ⟨.inl (by simp),zAe (by kernel_rfl) ?_ _⟩;refine puT ?_;obtain ⟨W8,Kp⟩:=mJ (x4.setCell ⟨gx,4,none⟩ (.slice A9 (x.told.length+1) c9));change Exit.then _ _ _ _ (x4.setCell ⟨gx,4,none⟩ (.slice A9 (x.told.length+1) c9));rw [<- Kp] at Hr ⊢;have Kq:=mA Hr.1;have Vu:=mA (Hb.out.fr.trans ((Fr.of Hc Kc).trans Hr.2));obtain ⟨_,_,eq,-,Gv,-,Hk,-⟩:=Kq.out.custAt Hm;cases eq
 obtain ⟨u2,u3,u4,u5,u6,u7,⟨z2,z3,z4,z5,z6,z7⟩,f2,f3,f4,f5,f6,f7⟩:=there6 Hk;clear Kp Hr Hs Hd g4 gz gl4 Ko Kn Hg Hi Hc Hq h4 Kd Hk He;have Hf:=Kq.out.putCust (k:=c) Hm 2 [.int .i64 0,.int .i64 0,.int .i64 0,.int .i64 0,.int .i64 0,.string ⟨#[]⟩] (by decide) (u:={ cu with wait:=Scu.req0 }) (by rw [Kt.out];rfl);have Hl:=mA (mB Hf.1.e (Vu.out.trans Hf.2));clear Hf;go_wp2
 go_ret
 exact ⟨zAb (zAd Hj.out.2.symm),by rw [Hj.out.1];exact Hl.out.1,Hl.out.2⟩):P:=h
theorem zT5 {P:Prop} (h:P:=by
 exact ⟨zAb (zAd Hj.out.2.symm),by rw [Hj.out.1];exact Hb.net.e,Hb.fr⟩):P:=h
theorem by_3 (s:Bool) (a:Scu.Act) (w:World) (base gx:Nat) (x:Scu.Net) (rv sv fv cv tv:Value) (hN:NetG s w base gx x rv sv fv cv tv) (hb:base<=w.heap.size) (n:Nat) (hC:Scu.Came n x) (hn:n<=900) (hk:a.kind=3) (hr:¬ (a.c < 0\/(x.clients.length:Int)<=a.c)) (y:Scu.Net) (f:Int) (hy:Scu.actBy x a=(y,f)):Calls Tryz.prog (fBy s) #[.pointer (some ⟨gx,0,none⟩),.agg #[.int .i64 a.kind,.int .i64 a.c,.int .i64 a.r,.int .i64 a.k,.int .i64 a.n,.int .i64 a.op.kind,.int .i64 a.op.at_,.int .i64 a.op.snap,.string a.op.data]] w fun e w'=>e=.returned (.int .i64 f)/\NetGE s w' base gx y/\Fr base w w':=by
 have Gx:x.told.length<=900:=mD hC.told hn;obtain ⟨i0,h0⟩:=mK (decide (a.c < 0));obtain ⟨i1,h1⟩:=mK (decide ((x.clients.length:Int)<=a.c));have Vw:=zEs h0 h1 (hi:=(x.clients.length:Int) - 1) (by omega);obtain ⟨j0,g0⟩:=mK (decide (a.r < 0));obtain ⟨j1,g1⟩:=mK (decide (3<=a.r));have Vh:=zEs g0 g1 (hi:=2) rfl;have Gy:(x.clients.length:Int)<=4:=by have:=hC.few;omega
 obtain ⟨B0,e0,B1,e1,B2,e2,B3,e3,B4,e4,rfl,rfl,rfl,rfl,rfl⟩:=hN.forms;have Hc:=zAa w (.cells (aN a) 57);have HS:=mA (show AcS s w (w.alloc (.cells (aN a) 57)) base gx x a _ _ _ _ _ from ⟨hN.below Hc,Blk.new w 57 (aN a),Fr.of Hc hb,hb⟩);have HC:=mA hC;unfold Scu.actBy at hy;obtain ⟨c,Kr⟩:=Int.eq_ofNat_of_zero_le (show 0<=a.c by omega);obtain ⟨rfl,rfl⟩:i0=false/\i1=false:=by rw [<- h0,<- h1];simp only [decide_eq_false_iff_not];omega
 have Hm:c < x.clients.length:=by omega
 have Gz:(c:Int) < (x.clients.length:Int):=by omega
 obtain ⟨cu,Ks⟩:=mK (x.clients[c]);have hg:x.clients.getD c Scu.cust0=cu:=by rw [mI,mH Hm];exact Ks
 have Kg:=mA (show cu.id=(c:Int)+1/\1<=cu.next/\cu.next<=901/\(cu.wait.num=0\/cu.wait.client=c+1/\1<=cu.wait.num/\cu.wait.num<=901/\Scu.opFault cu.wait.op=0)/\c < 4 by have:=hC.ids c cu (by rw [mH Hm,Ks]);omega);rw [if_neg hr,Kr,Int.toNat_natCast,hg] at hy;dsimp only at hy
 rw [Kr] at h0 h1 Vw;have Vx:=mA Kr;have Kt:=mA Ks;clear Kr hg Ks;rw [if_neg (show ¬ a.kind=1 by rw [hk];decide)] at hy;have HY:=mA hy;have Kh:=mA hk;clear hy hr hC hN Hc hk;cases s
 case' false =>
  change Calls Tryz.prog 23 _ _ _;go_enter Tryz.func23,Tryz.ntmps23
 case' true =>
  change Calls Tryz.prog 15 _ _ _;go_enter Tryz.func15,Tryz.ntmps15
 all_goals
  go_upto_region 1 with fail
  obtain ⟨Wd,Vy⟩:=mJ (w.alloc (.cells (aN a) 57));rw [<- Vy] at HS ⊢;clear Vy;obtain ⟨a0,a1,a2,a3,a4,a5,a6,a7,a8⟩:=cz9 HS.out.ab;have al:=HS.out.ab.lt;obtain ⟨d0,d1,d2,d3,d4⟩:=cz5 HS.out.net.box;have dl:=HS.out.net.box.lt;rw [Vx.out] at a1;obtain ⟨gc,cc,ec,-,Ku,Vi,Ki,-⟩:=HS.out.net.custAt Hm;obtain ⟨rfl,rfl⟩:=slq ec;rw [Kt.out] at Vi;have Kv:=mA Vi;have Vz:=mA Ki;clear ec Vi Ki;rw [Kh.out] at a0;go_wp2_with fail
  go_quiet ((go_at_call 12;exact zBk ((zAt _ _ _ _).mono fun _ _ h=>⟨by rw [h.1,Vw],0,h.2.symm⟩)))
  go_wp2_with fail
  obtain ⟨W1,Vj⟩:=mJ (Wd.drewN nq);have h1:Below Wd.heap.size Wd W1:=by rw [Vj];exact below_drewN (mG _ _) _
  rw [<- Vj];clear Vj a0 a1 a2 a3 a4 a5 a6 a7 a8 d0 d1 d2 d3 d4 al dl;obtain ⟨a0,a1,a2,a3,a4,a5,a6,a7,a8⟩:=cz9 (HS.out.below h1).ab;rw [Vx.out] at a1;have al:=(HS.out.below h1).ab.lt;obtain ⟨d0,d1,d2,d3,d4⟩:=cz5 (HS.out.below h1).net.box;have dl:=(HS.out.below h1).net.box.lt;go_quiet (fail)
  obtain ⟨W2,Vk⟩:=mJ (W1.drewN nq);rw [<- Vk];have h2:Below Wd.heap.size Wd W2:=by rw [Vk];exact below_drewN h1 _
  have HS:=mA (HS.out.below h2);have Kv:=mA (rgb h2 Ku Kv.out);have Vz:=mA (zDr Vz.out h2 Ku);have gl:gc < W2.heap.size:=mF Ku h2.size;clear Vk h1 h2 a0 a1 a2 a3 a4 a5 a6 a7 a8 d0 d1 d2 d3 d4 al dl Ku;obtain ⟨a0,a1,a2,a3,a4,a5,a6,a7,a8⟩:=cz9 HS.out.ab;have al:=HS.out.ab.lt;have v3:W2.cell? ⟨gc,c*8+3,none⟩=some (.int .i64 cu.wait.num):=Kv.out 3 _ rfl;rw [Kh.out] at a0;by_cases hw:cu.wait.num=0
  ·exact zU5
  have Na:(cu.wait.num == 0)=false:=by simpa using hw
  by_cases Kw:a.r < 0\/3<=a.r
  ·have HE:=mA (show y=x/\f=6 by have h:=HY.out;rw [if_neg hw,if_pos Kw] at h;exact pr2 h);have Gn:j0=true\/j0=false/\j1=true:=by rw [<- g0,<- g1];simp only [decide_eq_true_eq,decide_eq_false_iff_not];omega
   clear Kw hw;rcases Gn with rfl | ⟨rfl,rfl⟩;all_goals
    go_wp2_with (first | (go_at_call 12;refine (zAt _ _ _ _).mono ?_;rintro en w9 ⟨rfl,rfl⟩;rw [Vh];dsimp only [Bool.not_true,Bool.not_false,Bool.false_and,Bool.and_false,Bool.and_true]) | fail)
    go_ret
    exact ⟨zAb (zAd HE.out.2.symm),by rw [HE.out.1];exact HS.out.net.e,HS.out.fr⟩
  obtain ⟨r,Kx⟩:=Int.eq_ofNat_of_zero_le (show 0<=a.r by omega);obtain ⟨rfl,rfl⟩:j0=false/\j1=false:=by rw [<- g0,<- g1];simp only [decide_eq_false_iff_not];omega
  have Hv:r < x.replicas.length:=by have:=HC.out.rlen.1;omega
  have Nb:r < 3:=by omega
  have Nc:(r:Int) < (x.replicas.length:Int):=by omega
  obtain ⟨rk,Ky⟩:=mK (x.replicas[r]);have Go:=mA (by have h:=HY.out;rw [if_neg hw,if_neg Kw,Kx,Int.toNat_natCast,show x.replicas.getD r Scu.replica0=rk by rw [mI,mH Hv];exact Ky] at h;exact h);rw [Kx] at g0 g1 Vh a2;have HK:=mA Kx;obtain ⟨gr,cr,lu0,Nd,wv0,gv0,nv0,er,-,gl2,Kz,Vl,-⟩:=HS.out.net.repAt Hv;obtain ⟨rfl,rfl⟩:=slq er;rw [Ky] at Vl Kz;obtain ⟨F0,p0,q0,F1,q1,F2,q2,F3,q3,F4,q4,rfl,rfl,rfl,rfl,rfl⟩:=Kz.forms;have Vm:=mA Kz;have Ga:=mA Vl;have Va:=mA (HC.out.rf rk (Ky ▸ List.getElem_mem Hv));have Gb:=mA gl2;clear Vl Kz er Ky Kx Kw gl2;have HE:=mA (show Scu.answer x c rk=(y,f) by have h:=Go.out;rw [if_pos Kh.out] at h;exact h);clear hw
 case' _ =>
  go_wp2_with (first | (go_at_call 12;refine (zAt _ _ _ _).mono ?_;rintro en w9 ⟨rfl,rfl⟩;rw [Vh];dsimp only [Bool.not_true,Bool.not_false,Bool.false_and,Bool.and_false,Bool.and_true]) | fail)
  have He:Below W2.heap.size W2 W2.drew:=(mG _ _).drew;refine rgF (Below W2.heap.size W2) [] [0,1,2,3,4,5,6,7] He ?_;iterate 8
   (refine tkc (v:=?_) rfl (Or.inl ⟨by rfl,?_⟩) ?_;rotate_left;(intro wv Ha;(obtain ⟨d0,-⟩:=cz3 (HS.out.net.box.same Ha);obtain ⟨-,-,a2,-⟩:=cz9 (HS.out.ab.same Ha);rw [HK.out] at a2;obtain ⟨p0,p1,p2,p3,p4,p5,p6,p7,p8,p9⟩:=rg10 (rgb Ha Gb.out Ga.out));go_simp;with_reducible rfl);(try simp only [Act.put,zp1,zp2,zp3]))
  refine tkz (fun Hi=>?_);refine alF 8 (fun KA Ht=>?_);go_simp;have Hw:=He.alloc (mC _) (.cells zR 47);refine Ht _ _ ⟨.inr Hw,?_⟩;refine puT ?_;refine alF 9 (fun KB Hg=>?_);rw [if_pos (by rfl)];have hz:=Blk.new' (w:=W2.drew) (g:=W2.heap.size) (t:=47) (cs:=zR) rfl;refine wp_store_mid 47 _ _ rfl W2.heap.size 0 (rN rk F0 p0 q0 F1 q1 F2 q2 F3 q3 F4 q4) rfl rfl (zBu hz) (by kernel_rfl) (by simp [Value.oneCell']) ?_;have Hx:=zAr (mC W2.heap.size) ((rN rk F0 p0 q0 F1 q1 F2 q2 F3 q3 F4 q4)).toList 0 _ _ Hw;refine Hg _ _ ⟨.inr Hx,genF fun W3 Kf=>zAe (by kernel_rfl) ?_ _⟩;have Hh:=mA (show Below W2.heap.size W2 W3/\Blk W3 W2.heap.size 47 (rN rk F0 p0 q0 F1 q1 F2 q2 F3 q3 F4 q4) by rw [Kf];exact ⟨Hx,zHu (xs:=[.int .i64 0,.int .i64 0,.int .i64 0,.bool false,.slice none 0 0,.int .i64 0,.slice none 0 0,.slice none 0 0,.slice none 0 0,.slice none 0 0]) hz rfl⟩);clear Kf He Hw Hx hz Ht Hg a0 a1 a2 a3 a4 a5 a6 a7 a8 al v3;refine puT ?_;change Exit.then _ _ _ _ W3;obtain ⟨b0,b1,b2,b3,b4,b5,b6,b7,b8,b9⟩:=cz10 Hh.out.2;have bl9:=Hh.out.2.lt;go_wp2_with fail
  obtain ⟨bl,Hy⟩:=mK (Scu.leads rk);refine (zEr _ _ _ _ _ rk (Scu.rep_lk Va.out).1 W3 bl Hy).mono ?_;rintro en w4 ⟨rfl,h4⟩;have Hn:=mA (mB (Hh.out.1.trans (h4.mono Hh.out.1.size)) (Hh.out.2.same h4));have Vn:=mA Hy;have Hu:=mA (HS.out.below Hn.out.1);obtain ⟨a0,a1,a2,a3,a4,a5,a6,a7,a8⟩:=cz9 Hu.out.ab;rw [Kh.out] at a0;have al:=Hu.out.ab.lt;clear b0 b1 b2 b3 b4 b5 b6 b7 b8 b9 bl9 h4 Hy Hh
 rotate_left
 case' _ =>
  go_wp2_with fail
  have He:Below W2.heap.size W2 W2.drew:=(mG _ _).drew;refine rgF (Below W2.heap.size W2) [10,11] [0,1,2,3,4,5,6,7,8,9] He ?_;iterate 10
   (refine tkc (v:=?_) rfl (Or.inl ⟨by rfl,?_⟩) ?_;rotate_left;(intro wv Ha;(obtain ⟨d0,-⟩:=cz3 (HS.out.net.box.same Ha);obtain ⟨-,-,a2,-⟩:=cz9 (HS.out.ab.same Ha);rw [HK.out] at a2;obtain ⟨p0,p1,p2,p3,p4,p5,p6,p7,p8,p9⟩:=rg10 (rgb Ha Gb.out Ga.out));go_simp;with_reducible rfl);(try simp only [Act.put,zp1,zp2,zp3]))
  refine tkz (fun Hi=>?_);refine alF 10 (fun KA Ht=>?_);go_simp;refine Calls.mono (R:=fun e w'=>e=.returned (.int .i64 f)/\NetGE false w' base gx y/\Fr base w w') ?_ ?_;rotate_left
  case' _ =>
   rintro en w9 ⟨rfl,Gc,Gd⟩;have HT:=mA (mB Gc Gd);clear Gc Gd;refine Ht _ _ ⟨.inl (by simp),?_⟩;refine puT ?_;refine alF 11 (fun KB Hg=>?_);go_simp;refine Hg _ _ ⟨.inl (by simp),zAe (by kernel_rfl) ?_ _⟩;refine puT ?_;change Exit.then _ _ _ _ w9;go_wp2
   go_ret
   exact ⟨zAb rfl,HT.out.1,HT.out.2⟩
  clear Ht Hi;go_enter Tryz.func48,Tryz.ntmps48
  go_upto_region 1 with fail
  obtain ⟨W3,Kf⟩:=mJ ((W2.alloc (.cells (rN rk F0 p0 q0 F1 q1 F2 q2 F3 q3 F4 q4) 47)).drew);rw [<- Kf];have Hh:=mA (show Below W2.heap.size W2 W3/\Blk W3 W2.heap.size 47 (rN rk F0 p0 q0 F1 q1 F2 q2 F3 q3 F4 q4) by rw [Kf];exact ⟨(zAa W2 _).drew,(Blk.new W2 _ _).drew⟩);clear Kf He a0 a1 a2 a3 a4 a5 a6 a7 a8 al v3;obtain ⟨b0,b1,b2,b3,b4,b5,b6,b7,b8,b9⟩:=cz10 Hh.out.2;have bl9:=Hh.out.2.lt;go_wp2_with fail
  obtain ⟨bl,Hy⟩:=mK (Scu.leads rk);refine (zFb _ _ _ _ _ rk (Scu.rep_lk Va.out).1 W3 bl Hy).mono ?_;rintro en w4 ⟨rfl,h4⟩;have Hn:=mA (mB (Hh.out.1.trans (h4.mono Hh.out.1.size)) (Hh.out.2.same h4));have Vn:=mA Hy;have Hu:=mA (HS.out.below Hn.out.1);obtain ⟨a0,a1,a2,a3,a4,a5,a6,a7,a8⟩:=cz9 Hu.out.ab;rw [Kh.out] at a0;have al:=Hu.out.ab.lt;clear b0 b1 b2 b3 b4 b5 b6 b7 b8 b9 bl9 h4 Hy Hh
 all_goals
  have Ge:x.clients.getD c Scu.cust0=cu:=by rw [mI,mH Hm];exact Kt.out
  cases bl with
  | false =>
    have Kj:=mA (show y=x/\f=14 by have h:=HE.out;unfold Scu.answer at h;rw [if_pos Vn.out] at h;exact pr2 h);go_wp2
    go_ret
    exact ⟨zAb (zAd Kj.out.2.symm),by rw [Kj.out.1];exact Hu.out.net.e,Hu.out.fr⟩
  | true =>
    obtain ⟨q,hq⟩:=Int.eq_ofNat_of_zero_le (Scu.rep_lk Va.out).2.1;have Gf:q<=rk.kept.log.length:=by have:=(Scu.rep_lk Va.out).2.2;omega
    obtain ⟨st,er,hp⟩:∃ st er,Scu.play (rk.kept.log.take q)=(st,er):=⟨_,_,rfl⟩;have Kj:=mA (show (if er≠0 then (x,er) else if (st.lasts.getD c Scu.last0).num≠cu.wait.num then (x,12) else ({ x with told:=x.told ++ [⟨cu.wait,(st.lasts.getD c Scu.last0).reply⟩],clients:=x.clients.set c { cu with wait:=Scu.req0 } },0))=(y,f) by
     have h:=HE.out;unfold Scu.answer at h;rw [Ge,hq,Int.toNat_natCast] at h;dsimp only at h
     rw [if_neg (by rw [Vn.out];simp),hp,show (cu.id - 1).toNat=c by have:=Kg.out.1;omega] at h;exact h)
    have Gp:(0:Int)<=(q:Int)/\(q:Int)<=(q0:Int):=by
     obtain ⟨_,_,e,hc,_⟩:=Vm.out.log.ex;cases e
     omega
    obtain ⟨-,-,-,-,b4,b5,-⟩:=cz10 Hn.out.2;have bl9:=Hn.out.2.lt;rw [hq] at b5;have HP:=mA (mB hp Gf);clear hp Gf Ge hq;go_wp2_with fail
    first
    | refine (zWe false F0 q q0 _ w4 0 ((Vm.out.log.below Hn.out.1).take HP.out.2) st er HP.out.1).mono ?_
    | refine (zWe true F0 q q0 _ w4 0 ((Vm.out.log.below Hn.out.1).take HP.out.2) st er HP.out.1).mono ?_
    rintro en w5 ⟨⟨A0,n0,c0,A1,n1,c1,A2,c2,rfl,hs⟩,h5⟩;have Gg:=mA (Hu.out.below h5);have Gh:=mA (Hn.out.1.trans (h5.mono Hn.out.1.size));have Gq:=mA hs;clear hs h5 b4 b5 bl9 a0 a1 a2 a3 a4 a5 a6 a7 a8 al Gp;by_cases Kk:er=0
    ·have Vb:=mA (by have h:=Kj.out;rw [if_neg (by rw [Kk];simp)] at h;exact h);subst Kk;go_wp2_with fail
     obtain ⟨W5,Vc⟩:=mJ (w5.alloc (.cells #[.slice A0 n0 c0,.slice A1 n1 c1,.slice A2 st.lasts.length c2] 91));rw [<- Vc];have Vd:Below w5.heap.size w5 W5:=by rw [Vc];exact zAa _ _
     have Vo:=mA (show Blk W5 w5.heap.size 91 #[.slice A0 n0 c0,.slice A1 n1 c1,.slice A2 st.lasts.length c2] by rw [Vc];exact Blk.new _ _ _);have Hz:=mA (Gg.out.below Vd);have Vp:=Gh.out.trans (Vd.mono Gh.out.size);have Ka:c < st.lasts.length:=by rw [Scu.play_four HP.out.1];exact Kg.out.2.2.2.2
     have Ho:=mA (rgb Vp gl Kv.out);have gl6:=mF gl Vp.size;obtain ⟨_,_,ex,_,Hv⟩:=(Gq.out.lasts.below Vd).ex;cases ex
     obtain ⟨la,Ve⟩:=mK (st.lasts[c]);obtain ⟨gl9,ol,eA,gll,t0,t1,t2,t3⟩:=zGa Hv Ka;rw [Ve] at t0 t1 t2 t3;subst eA;have Gi:st.lasts.getD c Scu.last0=la:=by rw [mI,mH Ka];exact Ve
     have Vf:=mA (show (if la.num≠cu.wait.num then (x,12) else ({ x with told:=x.told ++ [⟨cu.wait,la.reply⟩],clients:=x.clients.set c { cu with wait:=Scu.req0 } },0))=(y,f) by have h:=Vb.out;rw [Gi] at h;exact h);obtain ⟨-,-,s2⟩:=cz3 Vo.out;have sl:=Vo.out.lt;obtain ⟨v0,v1,v2,v3,v4,v5,v6,v7⟩:=rg8 Ho.out;rw [Kg.out.1] at v0;have Gr:IntKind.i64.wrap ((c:Int)+1 - 1)=(c:Int):=by rw [IntWalk.i64_in _ (by omega)];omega
     have Gs:IntKind.i64.wrap (c:Int)=(c:Int):=IntWalk.i64_in _ (by omega);have Gj:(0:Int)<=(c:Int):=by omega
     have Gt:(c:Int)+1 - 1=(c:Int):=by omega
     have Gu:(c:Int) < (st.lasts.length:Int):=by omega
     obtain ⟨nb,Vg⟩:=mK ((la.num != cu.wait.num));have Gk:=mA (mB Hv Ve);clear Vc Vd Vp Hv Ve Gi;first
     | go_quiet (fail)
       cases nb with
       | true =>
         have Hj:=mA (show y=x/\f=12 by have h:=Vf.out;rw [if_pos (bne_iff_ne.1 Vg)] at h;exact pr2 h);go_wp2
         go_ret
         have Hb:=Hz.out.below (below_drewN (mG W5.heap.size W5) nq);exact zT5
       | false =>
         have Hj:=mA (show y = { x with told:=x.told ++ [(⟨cu.wait,la.reply⟩:Scu.Told)],clients:=x.clients.set c { cu with wait:=Scu.req0 } }/\f=0 by have h:=Vf.out;rw [if_neg (by simpa using Vg)] at h;exact pr2 h);go_wp2_with fail
         obtain ⟨W7,Hp⟩:=mJ ((W5).drewN nq);rw [<- Hp];have Gl:Below (W5).heap.size W5 W7:=by rw [Hp];exact below_drewN (mG _ _) _
         have h7:Below W5.heap.size W5 W7:=by rw [Hp];exact below_drewN (mG W5.heap.size W5) _
         have Hb:=mA (Hz.out.below h7);have Kb:=mA (rgb h7 gl6 Ho.out);obtain ⟨_,_,eq,-,-,-,-,_,Kl⟩:=Hb.out.net.custAt Hm;cases eq
         have Vq:=mA Kl;obtain ⟨tss,Km⟩:=Hb.out.net.told;have Vr:=mA Km;have Kc:base<=W7.heap.size:=mD Hb.out.le Hb.out.fr.size;clear Hp Kl Km;have Vs:=mA (Vo.out.same h7);have Vt:=mA (Gk.out.1.below h7);have He:Same [NT true,95,91,55] 0 W7 W7.drew:=Same.drew _;refine rgF (Same [NT true,95,91,55] 0 W7) [24] [0,1,2,3,4,5,6,7,8,9,10,11,12,13,14,15,16,17,18,19] He ?_;iterate 20
          (refine tkc (v:=?_) rfl (Or.inl ⟨by rfl,?_⟩) ?_;rotate_left;(intro wv Ha;(obtain ⟨d0,d1,d2,d3,d4⟩:=cz5 (zAc Hb.out.net.box Ha (by simp));obtain ⟨v0,v1,v2,v3,v4,v5,v6,v7⟩:=rg8 (rgS Kb.out Vq.out Ha (by simp));rw [Kg.out.1] at v0;obtain ⟨-,-,s2⟩:=cz3 (zAc Vs.out Ha (by simp));obtain ⟨_,_,e9,_,t0,t1,t2,t3⟩:=zGa (Vt.out.same (by simp) Ha) Ka;cases e9;rw [Gk.out.2] at t0 t1 t2 t3);go_simp;with_reducible rfl);(try simp only [Act.put,zp1,zp2,zp3]))
         refine tkz (fun Hi=>?_);refine alF 20 (fun KB Hg=>?_);go_simp;have Hc:=(mG W7.heap.size W7).drew.alloc (mC _) (.cells #[.int .i64 cu.wait.client,.int .i64 cu.wait.num,.int .i64 cu.wait.op.kind,.int .i64 cu.wait.op.at_,.int .i64 cu.wait.op.snap,.string cu.wait.op.data,.int .i64 la.reply.code,.int .i64 la.reply.n,.string la.reply.data] 71);refine Hg _ _ ⟨.inr (Same.below Hc),?_⟩;refine puT ?_;have Hq:=Vr.out.same (B:=0) (Ts:=[71]) (by simp) (Same.below Hc) (fun _ _ h=>h);refine alF 21 (fun KC Kn=>?_);rw [if_pos (by rfl)];refine zCi _ _ _ 27 rfl zPb base _ x.told.length tss.flatten rfl Hq.row (.slice (some ⟨W7.heap.size,0,none⟩) 1 1) 1 (toldV (⟨cu.wait,la.reply⟩:Scu.Told)) rfl (zPi W7.drew (⟨cu.wait,la.reply⟩:Scu.Told)) (zPj (⟨cu.wait,la.reply⟩:Scu.Told)) (by unfold maxLen;omega) (by omega) (mD Kc Hc.size) ?_;intro v9 x4 h4 Kd _;obtain ⟨A9,c9,rfl,_,_,_,_⟩:=zAi h4;have Hr:=(Hb.out.net.below Hc).pushTold (t:=(⟨cu.wait,la.reply⟩:Scu.Told)) Hq (by unfold R47;omega) h4 Kd (mD Kc Hc.size);have Hs:Same [NT true,95,91,55] 0 W7 x4:=(Same.below Hc).trans (Same.own Hq.row Kd (mE _) (by decide));refine Kn _ _ ⟨.inr Hs,?_⟩;refine puT ?_;refine tkFs 16 [22,23] Hs (shF (shF Hi 20) 21) ?_;iterate 2
          (refine tkc (v:=?_) rfl (Or.inl ⟨by rfl,?_⟩) ?_;rotate_left;(intro wv Ha;skip;go_simp;with_reducible rfl);(try simp only [Act.put,zp1,zp2,zp3]))
         refine tkz (fun Hi=>?_);have Hd:=zAc Hb.out.net.box Hs (by simp);obtain ⟨-,-,-,-,g4⟩:=cz5 Hd;have gz:=Hd.frozen;have gl4:=Hd.lt;refine alF 24 (fun KD Ko=>?_);exact zP5
     | have He:Below W5.heap.size W5 W5.drew:=(mG _ _).drew
       refine rgF (Below W5.heap.size W5) [] [0,1,2,3,4,5,6,7,8] He ?_;iterate 9
        (refine tkc (v:=?_) rfl (Or.inl ⟨by rfl,?_⟩) ?_;rotate_left;(intro wv Ha;(have q0:=cW Ha sl s2;have q1:=cW Ha gl6 v0;have l0:=cW Ha gll t0;have l1:=cW Ha gll t1;have l2:=cW Ha gll t2;have l3:=cW Ha gll t3);go_simp;with_reducible rfl);(try simp only [Act.put,zp1,zp2,zp3]))
       refine tkz (fun Hi=>?_);refine alF 9 (fun KA Ht=>?_);go_simp;have Hw:=He.alloc (mC _) (.cells #[.int .i64 0,.int .i64 0,.int .i64 0,.string ⟨#[]⟩] 95);refine Ht _ _ ⟨.inr Hw,?_⟩;refine puT ?_;refine alF 10 (fun KB Hg=>?_);rw [if_pos (by rfl)];have hz:=Blk.new' (w:=W5.drew) (g:=W5.heap.size) (t:=95) (cs:=#[.int .i64 0,.int .i64 0,.int .i64 0,.string ⟨#[]⟩]) rfl;refine wp_store_mid 95 _ _ rfl W5.heap.size 0 #[.int .i64 la.num,.int .i64 la.reply.code,.int .i64 la.reply.n,.string la.reply.data] rfl rfl (zBu hz) (by kernel_rfl) (by simp [Value.oneCell']) ?_;have Hx:=zAr (mC W5.heap.size) (#[.int .i64 la.num,.int .i64 la.reply.code,.int .i64 la.reply.n,.string la.reply.data]).toList 0 _ _ Hw;refine Hg _ _ ⟨.inr Hx,genF fun W6 Gm=>zAe (by kernel_rfl) ?_ _⟩;have Ke:=mA (show Below W5.heap.size W5 W6/\Blk W6 W5.heap.size 95 #[.int .i64 la.num,.int .i64 la.reply.code,.int .i64 la.reply.n,.string la.reply.data] by rw [Gm];exact ⟨Hx,zHu (xs:=[.int .i64 0,.int .i64 0,.int .i64 0,.string ⟨#[]⟩]) hz rfl⟩);clear Gm He Hw Hx hz Ht Hg;refine puT ?_;change Exit.then _ _ _ _ W6;have gl7:=mF gl6 Ke.out.1.size;obtain ⟨v0,v1,v2,v3,v4,v5,v6,v7⟩:=rg8 (rgb Ke.out.1 gl6 Ho.out);obtain ⟨k0,k1,k2,k3⟩:=cz4 Ke.out.2;have kl:=Ke.out.2.lt;go_wp2_with fail
       go_quiet (fail)
       cases nb with
       | true =>
         have Hj:=mA (show y=x/\f=12 by have h:=Vf.out;rw [if_pos (bne_iff_ne.1 Vg)] at h;exact pr2 h);go_wp2
         go_ret
         have Hb:=Hz.out.below (below_drewN Ke.out.1 nq);exact zT5
       | false =>
         have Hj:=mA (show y = { x with told:=x.told ++ [(⟨cu.wait,la.reply⟩:Scu.Told)],clients:=x.clients.set c { cu with wait:=Scu.req0 } }/\f=0 by have h:=Vf.out;rw [if_neg (by simpa using Vg)] at h;exact pr2 h);go_wp2_with fail
         obtain ⟨W7,Hp⟩:=mJ ((W6).drewN nq);rw [<- Hp];have Gl:Below (W6).heap.size W6 W7:=by rw [Hp];exact below_drewN (mG _ _) _
         have h7:Below W5.heap.size W5 W7:=by rw [Hp];exact below_drewN Ke.out.1 _
         have Hb:=mA (Hz.out.below h7);have Kb:=mA (rgb h7 gl6 Ho.out);obtain ⟨_,_,eq,-,-,-,-,_,Kl⟩:=Hb.out.net.custAt Hm;cases eq
         have Vq:=mA Kl;obtain ⟨tss,Km⟩:=Hb.out.net.told;have Vr:=mA Km;have Kc:base<=W7.heap.size:=mD Hb.out.le Hb.out.fr.size;clear Hp Kl Km;have Vv:=mA (Ke.out.2.same Gl);have He:Same [NT false,95,91,55] 0 W7 W7.drew:=Same.drew _;refine rgF (Same [NT false,95,91,55] 0 W7) [16] [0,1,2,3,4,5,6,7,8,9,10,11] He ?_;iterate 12
          (refine tkc (v:=?_) rfl (Or.inl ⟨by rfl,?_⟩) ?_;rotate_left;(intro wv Ha;(obtain ⟨d0,d1,d2,d3,d4⟩:=cz5 (zAc Hb.out.net.box Ha (by simp));obtain ⟨v0,v1,v2,v3,v4,v5,v6,v7⟩:=rg8 (rgS Kb.out Vq.out Ha (by simp));rw [Kg.out.1] at v0;obtain ⟨k0,k1,k2,k3⟩:=cz4 (zAc Vv.out Ha (by simp)));go_simp;with_reducible rfl);(try simp only [Act.put,zp1,zp2,zp3]))
         refine tkz (fun Hi=>?_);refine alF 12 (fun KB Hg=>?_);go_simp;have Hc:=(mG W7.heap.size W7).drew.alloc (mC _) (.cells #[.int .i64 cu.wait.client,.int .i64 cu.wait.num,.int .i64 cu.wait.op.kind,.int .i64 cu.wait.op.at_,.int .i64 cu.wait.op.snap,.string cu.wait.op.data,.int .i64 la.reply.code,.int .i64 la.reply.n,.string la.reply.data] 71);refine Hg _ _ ⟨.inr (Same.below Hc),?_⟩;refine puT ?_;have Hq:=Vr.out.same (B:=0) (Ts:=[71]) (by simp) (Same.below Hc) (fun _ _ h=>h);refine alF 13 (fun KC Kn=>?_);rw [if_pos (by rfl)];refine zCi _ _ _ 27 rfl zPb base _ x.told.length tss.flatten rfl Hq.row (.slice (some ⟨W7.heap.size,0,none⟩) 1 1) 1 (toldV (⟨cu.wait,la.reply⟩:Scu.Told)) rfl (zPi W7.drew (⟨cu.wait,la.reply⟩:Scu.Told)) (zPj (⟨cu.wait,la.reply⟩:Scu.Told)) (by unfold maxLen;omega) (by omega) (mD Kc Hc.size) ?_;intro v9 x4 h4 Kd _;obtain ⟨A9,c9,rfl,_,_,_,_⟩:=zAi h4;have Hr:=(Hb.out.net.below Hc).pushTold (t:=(⟨cu.wait,la.reply⟩:Scu.Told)) Hq (by unfold R47;omega) h4 Kd (mD Kc Hc.size);have Hs:Same [NT false,95,91,55] 0 W7 x4:=(Same.below Hc).trans (Same.own Hq.row Kd (mE _) (by decide));refine Kn _ _ ⟨.inr Hs,?_⟩;refine puT ?_;refine tkFs 16 [14,15] Hs (shF (shF Hi 12) 13) ?_;iterate 2
          (refine tkc (v:=?_) rfl (Or.inl ⟨by rfl,?_⟩) ?_;rotate_left;(intro wv Ha;skip;go_simp;with_reducible rfl);(try simp only [Act.put,zp1,zp2,zp3]))
         refine tkz (fun Hi=>?_);have Hd:=zAc Hb.out.net.box Hs (by simp);obtain ⟨-,-,-,-,g4⟩:=cz5 Hd;have gz:=Hd.frozen;have gl4:=Hd.lt;refine alF 16 (fun KD Ko=>?_);exact zP5
    ·have Gw:(er != 0)=true:=by simpa using Kk
     have Vb:=mA (show y=x/\f=er by have h:=Kj.out;rw [if_pos Kk] at h;exact pr2 h);clear Kk;go_wp2
     go_ret
     have Hz:=Gg.out.below (zAa w5 (.cells #[.slice A0 n0 c0,.slice A1 n1 c1,.slice A2 st.lasts.length c2] 91));exact ⟨zAb (zAd Vb.out.2.symm),by rw [Vb.out.1];exact Hz.net.e,Hz.fr⟩
end Go.Proofs.YtlngfbngnnepiaaGreat
