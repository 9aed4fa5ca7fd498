/- Part 44: words and walks under the laws of the whole. -/
import Derived.Test.YtlngfbngnnepiaaGreatZZ37
import Derived.Test.YtlngfbngnnepiaaGreatZZ43
set_option linter.unusedVariables false
set_option linter.unusedSimpArgs false
set_option maxHeartbeats 4000000
set_option maxRecDepth 100000
namespace Go.Proofs.YtlngfbngnnepiaaGreat
open Go.RowKit
theorem NetG.putFly {s:Bool} {w:World} {base gx:Nat} {x:Scu.Net} {rv sv fv cv tv v4:Value} {fl:List Scu.Message} {css:List (List Value)} (h:NetG s w base gx x rv sv fv cv tv) (hf:OwnR 99 8 80 MsgE w base v4 fl css) :
 NetG s (w.setCell ⟨gx,2,none⟩ v4) base gx { x with flying:=fl } rv sv v4 cv tv/\Fr base w (w.setCell ⟨gx,2,none⟩ v4):=by
 obtain ⟨hs,hb⟩:=h.xcell 2 v4;exact ⟨⟨h.box.set_ 2 v4,zCa h.reps hs (by simp) (by simp),zBp h.slots hs (by simp) (by simp),zDs ⟨_,hf⟩ hs (by simp) (by simp),zCl h.cust hs (by simp),zCc h.told hs (by simp),h.lx⟩,hb,hs.mono (by simp) (mC _)⟩
theorem OwnR.parts {w w':World} {base g c n k:Nat} {ms:List Scu.Message} {css:List (List Value)} (h:OwnR 99 8 80 MsgE w base (.slice (some ⟨g,0,none⟩) n c) ms css) (hk:k < ms.length) (hb:Below w.heap.size w w') (c1 c2:Nat) (hc:ms.length<=c2) :
 Src1 w' 8 (.slice (some ⟨g,0,none⟩) k c1) k (css.take k).flatten/\Src1 w' 8 (.slice (if c2=k+1 then some ⟨g,0,none⟩ else some ⟨g,(k+1)*8,none⟩) (ms.length - (k+1)) (c2 - (k+1))) (ms.length - (k+1)) (css.drop (k+1)).flatten/\(∀ u ∈ (css.take k).flatten,u.oneCell'=true)/\(∀ u ∈ (css.drop (k+1)).flatten,u.oneCell'=true):=by
 have hr:=h.row;obtain ⟨A',c',e,_,hA,Hb,Hg⟩:=zAi hr;cases e
 have Hd:k < css.length:=by rw [h.len];exact hk
 have Hb:=Hb.below hb;have Ha:∀ j u,css.flatten[j]? = some u->w'.cell? ⟨g,0+j,none⟩=some u:=by
  rcases Hb with e | ⟨g',o',e,_,_,hc⟩
  ·intro j u hj;rw [e] at hj;cases hj
  cases e
  exact hc
 have ht:∀ cs ∈ css.take k,cs.length=8:=fun cs Hc=>h.sz cs (List.mem_of_mem_take Hc)
 have hd:∀ cs ∈ css.drop (k+1),cs.length=8:=fun cs Hc=>h.sz cs (List.mem_of_mem_drop Hc)
 have He:(css.take k).flatten.length=k*8:=by rw [zBo ht,List.length_take,Nat.min_eq_left (by omega)]
 have e1:css.flatten=(css.take k).flatten ++ (css[k] ++ (css.drop (k+1)).flatten):=by
  rw [<- List.flatten_cons,<- List.flatten_append,<- List.drop_eq_getElem_cons Hd,List.take_append_drop]
 have Hh:=h.sz _ (List.getElem_mem Hd);have Hf:(css.drop (k+1)).flatten.length=(ms.length - (k+1))*8:=by rw [zBo hd,List.length_drop,h.len]
 refine ⟨⟨He,.inr ⟨_,_,rfl,fun j u hj=>?_⟩⟩,⟨Hf,?_⟩,?_⟩
 ·rw [zHv,<- Nat.zero_add j];refine Ha j u ?_;rw [e1,List.getElem?_append_left (by have:=(List.getElem?_eq_some_iff.1 hj).1;omega)];exact hj
 ·by_cases hz:c2=k+1
  ·rw [if_pos hz];refine .inr ⟨_,_,rfl,fun j u hj=>?_⟩;have:=(List.getElem?_eq_some_iff.1 hj).1;omega
  rw [if_neg hz];refine .inr ⟨_,_,rfl,fun j u hj=>?_⟩;rw [show (⟨g,(k+1)*8,none⟩:Addr).add j=⟨g,0+((k+1)*8+j),none⟩ by unfold Addr.add;split <;> simp_all];refine Ha _ u ?_;rw [e1,List.getElem?_append_right (by omega),List.getElem?_append_right (by omega),<- hj];congr 1
  omega
 have h1:=zPk h.len h.each;rw [e1] at h1;exact ⟨fun u hu=>h1 u (List.mem_append_left _ hu),fun u hu=>h1 u (List.mem_append_right _ (List.mem_append_right _ hu))⟩
theorem zX5 {P:Prop} (h:P:=by
 exact (h.each _ _ _ h1 h2).same (Ts:=[9]) (by simp) (Same.below hb)):P:=h
theorem OwnR.cut {w w':World} {base k:Nat} {v v4:Value} {ms:List Scu.Message} {css:List (List Value)} (h:OwnR 99 8 80 MsgE w base v ms css) (hk:k < ms.length) (hb:Below w.heap.size w w') (Ha:base<=w.heap.size)
 (h4:w'.ownsRow w.heap.size 99 8 v4 (k+(ms.length - (k+1))) ((css.take k).flatten ++ (css.drop (k+1)).flatten)):OwnR 99 8 80 MsgE w' base v4 (ms.eraseIdx k) (css.eraseIdx k):=by
 have Hc:k < css.length:=by rw [h.len];exact hk
 have Hb:(ms.eraseIdx k).length=ms.length - 1:=List.length_eraseIdx_of_lt hk;have hm:=h.max;refine ⟨by rw [Hb,List.length_eraseIdx_of_lt Hc,h.len],fun cs Hd=>h.sz cs (List.mem_of_mem_eraseIdx Hd),?_,fun i cs y h1 h2=>?_,by rw [Hb];exact mD (Nat.mul_le_mul_right _ (by omega)) hm⟩
 ·rw [Hb,List.eraseIdx_eq_take_drop_succ,List.flatten_append,show ms.length - 1=k+(ms.length - (k+1)) by omega];exact zAl h4 Ha
 rw [List.getElem?_eraseIdx] at h1 h2;split at h1
 ·rename_i hik
  rw [if_pos hik] at h2;exact zX5
 rename_i hik
 rw [if_neg hik] at h2;exact zX5
theorem zEt {Wd X W3:World} {gb:Nat} {m:Scu.Message} {Al:Option Addr} {nl cl:Nat} {b0 b1 b2 b3 b4 b5 b6 b7:Value} (hW:W3=X.setCells gb 0 [.int .i64 m.kind,.int .i64 m.from_,.int .i64 m.tq,.int .i64 m.view,.int .i64 m.normal,.int .i64 m.commit,.int .i64 m.n,.slice Al nl cl]) (h1:IsStrs Wd 0 (.slice Al nl cl) m.log) (hX:Below Wd.heap.size Wd X) (hB:Blk X gb 99 #[b0,b1,b2,b3,b4,b5,b6,b7]) (hg:Wd.heap.size<=gb) :
 Below Wd.heap.size Wd W3/\Blk W3 gb 99 #[.int .i64 m.kind,.int .i64 m.from_,.int .i64 m.tq,.int .i64 m.view,.int .i64 m.normal,.int .i64 m.commit,.int .i64 m.n,.slice Al nl cl]/\IsStrs W3 0 (.slice Al nl cl) m.log:=by
 subst hW;exact zSt h1 hX hB hg
theorem zZo (s:Bool) (lv hv wv gv nv:Value) (r:Scu.Replica) (w:World) (hr:IsRep w 0 lv hv wv gv nv r) (rr:Scu.Replica) (ms:List Scu.Message) (f:Int) (xv:Value) (m:Scu.Message) (hx:IsStrs w 0 xv m.log) {q:Nat} (hq:m.tq=q) (h:Scu.hear r m=(rr,ms,f)) :
 Calls Tryz.prog (fHear s) #[.agg #[.int .i64 r.me,.int .i64 r.kept.view,.int .i64 r.kept.normal,.bool r.kept.calm,lv,.int .i64 r.kept.commit,hv,wv,gv,nv],.agg #[.int .i64 m.kind,.int .i64 m.from_,.int .i64 q,.int .i64 m.view,.int .i64 m.normal,.int .i64 m.commit,.int .i64 m.n,xv]] w (AskQ w rr ms f):=by
 rw [<- hq];exact zZm s lv hv wv gv nv r w 0 hr rr ms f xv m hx h
theorem zZz (s:Bool) (a:Scu.Act) (w:World) (base gx:Nat) (x:Scu.Net) (rv sv fv cv tv:Value) (hN:NetG s w base gx x rv sv fv cv tv) (hb:base<=w.heap.size) (n:Nat) (hC:Scu.Came n x) (hn:n<=900) (hk:a.kind=6\/a.kind=7\/a.kind=8\/a.kind=10) (hr:a.k < 0\/(x.flying.length:Int)<=a.k) (y:Scu.Net) (f:Int) (hy:Scu.actMessage x a=(y,f)):Calls Tryz.prog (fMsg s) #[.pointer (some ⟨gx,0,none⟩),.agg #[.int .i64 a.kind,.int .i64 a.c,.int .i64 a.r,.int .i64 a.k,.int .i64 a.n,.int .i64 a.op.kind,.int .i64 a.op.at_,.int .i64 a.op.snap,.string a.op.data]] w fun e w'=>e=.returned (.int .i64 f)/\NetGE s w' base gx y/\Fr base w w':=by
 obtain ⟨i0,h0⟩:=mK (decide (a.k < 0));obtain ⟨i1,h1⟩:=mK (decide ((x.flying.length:Int)<=a.k));have Hc:=zEs h0 h1 (hi:=(x.flying.length:Int) - 1) (by omega);have Hd:(x.flying.length:Int)<=80:=by have:=hC.fly.1;omega
 obtain ⟨B0,e0,B1,e1,B2,e2,B3,e3,B4,e4,rfl,rfl,rfl,rfl,rfl⟩:=hN.forms;have Ha:=zAa w (.cells (aN a) 57);have HS:=mA (show AcS s w (w.alloc (.cells (aN a) 57)) base gx x a _ _ _ _ _ from ⟨hN.below Ha,Blk.new w 57 (aN a),Fr.of Ha hb,hb⟩);have HC:=mA hC;have HE:=mA (show y=x/\f=6 by unfold Scu.actMessage at hy;rw [if_pos hr] at hy;exact pr2 hy);have He:i0=true\/i0=false/\i1=true:=by rw [<- h0,<- h1];simp only [decide_eq_true_eq,decide_eq_false_iff_not];omega
 clear hy hr hC hN Ha;rcases He with rfl | ⟨rfl,rfl⟩;all_goals
  cases s
  case' false =>
   change Calls Tryz.prog 25 _ _ _;go_enter Tryz.func25,Tryz.ntmps25
  case' true =>
   change Calls Tryz.prog 15 _ _ _;go_enter Tryz.func15,Tryz.ntmps15
  all_goals
   go_upto_region 1 with fail
   obtain ⟨Wd,Hb⟩:=mJ (w.alloc (.cells (aN a) 57));rw [<- Hb] at HS ⊢;clear Hb;obtain ⟨a0,a1,a2,a3,a4,a5,a6,a7,a8⟩:=cz9 HS.out.ab;have al:=HS.out.ab.lt;obtain ⟨d0,d1,d2,d3,d4⟩:=cz5 HS.out.net.box;have dl:=HS.out.net.box.lt;rcases hk with hk | hk | hk | hk;all_goals
    rw [hk] at a0;clear hk;go_wp2_with fail
    go_quiet ((go_at_call 12;exact zBk ((zAt _ _ _ _).mono fun _ _ h=>⟨by rw [h.1,Hc],0,h.2.symm⟩)))
    go_wp2
    go_ret
    have HS:=HS.out.below (below_drewN (mG _ _) nq);exact ⟨zAb (zAd HE.out.2.symm),by rw [HE.out.1];exact HS.net.e,HS.fr⟩
theorem yAa (s:Bool) (a:Scu.Act) (w:World) (base gx:Nat) (x:Scu.Net) (rv sv fv cv tv:Value) (hN:NetG s w base gx x rv sv fv cv tv) (hb:base<=w.heap.size) (n:Nat) (hC:Scu.Came n x) (hn:n<=900) (hk:a.kind=8) (hr:¬ (a.k < 0\/(x.flying.length:Int)<=a.k)) (y:Scu.Net) (f:Int) (hy:Scu.actMessage x a=(y,f)):Calls Tryz.prog (fMsg s) #[.pointer (some ⟨gx,0,none⟩),.agg #[.int .i64 a.kind,.int .i64 a.c,.int .i64 a.r,.int .i64 a.k,.int .i64 a.n,.int .i64 a.op.kind,.int .i64 a.op.at_,.int .i64 a.op.snap,.string a.op.data]] w fun e w'=>e=.returned (.int .i64 f)/\NetGE s w' base gx y/\Fr base w w':=by
 obtain ⟨i0,h0⟩:=mK (decide (a.k < 0));obtain ⟨i1,h1⟩:=mK (decide ((x.flying.length:Int)<=a.k));have Kg:=zEs h0 h1 (hi:=(x.flying.length:Int) - 1) (by omega);have Kv:(x.flying.length:Int)<=80:=by have:=hC.fly.1;omega
 obtain ⟨B0,e0,B1,e1,B2,e2,B3,e3,B4,e4,rfl,rfl,rfl,rfl,rfl⟩:=hN.forms;have Hc:=zAa w (.cells (aN a) 57);have HS:=mA (show AcS s w (w.alloc (.cells (aN a) 57)) base gx x a _ _ _ _ _ from ⟨hN.below Hc,Blk.new w 57 (aN a),Fr.of Hc hb,hb⟩);have HC:=mA hC;obtain ⟨k,Hk⟩:=Int.eq_ofNat_of_zero_le (show 0<=a.k by omega);obtain ⟨rfl,rfl⟩:i0=false/\i1=false:=by rw [<- h0,<- h1];simp only [decide_eq_false_iff_not];omega
 have Hu:k < x.flying.length:=by omega
 have Vg:(k:Int) < (x.flying.length:Int):=by omega
 obtain ⟨m,hm⟩:=mK (x.flying[k]);have Kh:=hC.fly.2 m (hm ▸ List.getElem_mem Hu);have hg:x.flying.getD k Scu.msg0=m:=by rw [mI,mH Hu];exact hm
 unfold Scu.actMessage at hy;rw [if_neg hr,Hk,Int.toNat_natCast,hg] at hy;dsimp only at hy
 rw [Hk] at h0 h1 Kg;have Ki:=mA Hk;have HM:=mA hm;have Vh:=mA Kh;have HY:=mA hy;have Hl:=mA hk;clear Hk hr hy hg hC hm Kh hN Hc hk;cases s
 case' false =>
  change Calls Tryz.prog 25 _ _ _;go_enter Tryz.func25,Tryz.ntmps25
 case' true =>
  change Calls Tryz.prog 15 _ _ _;go_enter Tryz.func15,Tryz.ntmps15
 all_goals
  go_upto_region 1 with fail
  obtain ⟨Wd,Kj⟩:=mJ (w.alloc (.cells (aN a) 57));rw [<- Kj] at HS ⊢;clear Kj;obtain ⟨a0,a1,a2,a3,a4,a5,a6,a7,a8⟩:=cz9 HS.out.ab;have al:=HS.out.ab.lt;obtain ⟨d0,d1,d2,d3,d4⟩:=cz5 HS.out.net.box;have dl:=HS.out.net.box.lt;rw [Ki.out] at a3;rw [Hl.out] at a0;obtain ⟨gf,cf,lu,ef,-,Kk,Hm,Hv,-⟩:=HS.out.net.flyAt Hu;obtain ⟨rfl,rfl⟩:=slq ef;rw [HM.out] at Hm Hv;obtain ⟨Al,nl,cl,rfl⟩:=Hm.form;have Kw:=mA Hv;have Kx:=mA Hm;clear ef Hm Hv;go_wp2_with fail
  go_quiet ((go_at_call 12;exact zBk ((zAt _ _ _ _).mono fun _ _ h=>⟨by rw [h.1,Kg],0,h.2.symm⟩)))
  go_wp2_with fail
  obtain ⟨W1,Hn⟩:=mJ (Wd.drewN nq);have h1:Below Wd.heap.size Wd W1:=by rw [Hn];exact below_drewN (mG _ _) _
  have Hi:=mA (HS.out.below h1);have Hw:=mA (rgb h1 Kk Kw.out);have Hx:=mA (Kx.out.below h1);have gf1:=mF Kk h1.size;have Hh:Below W1.heap.size W1 (Wd.drewN nq).drew:=by rw [Hn];exact (mG _ _).drew
  refine rgF (Below W1.heap.size W1) [] [0,1,2,3,4,5,6,7] Hh ?_;rw [<- Hn];clear Hn h1 a0 a1 a2 a3 a4 a5 a6 a7 a8 al d0 d1 d2 d3 d4 dl;iterate 8
   (refine tkc (v:=?_) rfl (Or.inl ⟨by rfl,?_⟩) ?_;rotate_left;(intro wv Hg;(obtain ⟨-,-,d2⟩:=cz3 (Hi.out.net.box.same Hg);obtain ⟨-,-,-,a3⟩:=cz4 (Hi.out.ab.same Hg);rw [Ki.out] at a3;obtain ⟨t0,t1,t2,t3,t4,t5,t6,t7⟩:=rg8 (rgb Hg gf1 Hw.out));go_simp;with_reducible rfl);(try simp only [Act.put,zp1,zp2,zp3]))
  refine tkz (fun Hy=>?_);refine alF 8 (fun KA Ho=>?_);go_simp;have Hh:=(mG W1.heap.size W1).drew;have Hp:=Hh.alloc (mC _) (.cells #[.int .i64 0,.int .i64 0,.int .i64 0,.int .i64 0,.int .i64 0,.int .i64 0,.int .i64 0,.slice none 0 0] 99);refine Ho _ _ ⟨.inr Hp,?_⟩;refine puT ?_;refine alF 9 (fun KB Hq=>?_);rw [if_pos (by rfl)];have hz:=Blk.new' (w:=W1.drew) (g:=W1.heap.size) (t:=99) (cs:=#[.int .i64 0,.int .i64 0,.int .i64 0,.int .i64 0,.int .i64 0,.int .i64 0,.int .i64 0,.slice none 0 0]) rfl;refine wp_store_mid 99 _ _ rfl W1.heap.size 0 (mN m Al nl cl) rfl rfl (zBu hz) (by kernel_rfl) (by simp [Value.oneCell']) ?_;have Kl:=zAr (mC W1.heap.size) ((mN m Al nl cl)).toList 0 _ _ Hp;refine Hq _ _ ⟨.inr Kl,genF fun W2 Km=>zAe (by kernel_rfl) ?_ _⟩;have Hr:=mA (zEt Km Hx.out Hp hz (mC _));clear Km Hh Hp Kl hz Ho Hq;refine puT ?_;change Exit.then _ _ _ _ W2;have He:=mA (Hi.out.below Hr.out.1);obtain ⟨gm,Hz⟩:=mK (W1.heap.size);have Hb:=mA (mB Hr.out.2.1 Hr.out.2.2);rw [Hz] at Hb gf1 ⊢;have Ka:base<=gm:=by rw [<- Hz];exact mD Hi.out.le Hi.out.fr.size
  clear Hz Hr;obtain ⟨a0,a1,a2,a3,a4,a5,a6,a7,a8⟩:=cz9 He.out.ab;rw [Hl.out] at a0;have al:=He.out.ab.lt;obtain ⟨d0,d1,d2,d3,d4⟩:=cz5 He.out.net.box;have dl:=He.out.net.box.lt;by_cases Hj:x.flying.length=80
  ·have HE:=mA (show y=x/\f=7 by have h:=HY.out;rw [if_pos Hl.out,if_pos Hj] at h;exact pr2 h);rw [Hj] at d2;clear Hj;go_wp2
   go_ret
   exact ⟨zAb (zAd HE.out.2.symm),by rw [HE.out.1];exact He.out.net.e,He.out.fr⟩
  have HE:=mA (show y = { x with flying:=x.flying ++ [m] }/\f=0 by have h:=HY.out;rw [if_pos Hl.out,if_neg Hj] at h;exact pr2 h);have Ky:((x.flying.length:Int) == 80)=false:=by rw [beq_eq_false_iff_ne];omega
  have Kz:¬ (80:Int)<=(x.flying.length:Int):=by omega
  have Vi:x.flying.length < 80:=by omega
  obtain ⟨-,-,-,-,-,-,-,m7⟩:=cz8 Hb.out.1;have ml:=Hb.out.1.lt;obtain ⟨_,_,ex,_,Kb⟩:=Hb.out.2.ex;have Va:=Hb.out.2.len;unfold R47 at Va;cases ex
  have Vb:=mA (zAq (size:=1) (m:=m.log.length) (c:=cl) Kb (by simp) (fun e=>by subst e;have:=zBi Kb;simpa using this));have Kn:=mA (show 0+m.log.length<=maxLen/\(0+m.log.length)*16<=140737488355328 from ⟨by unfold maxLen;omega,by omega⟩);clear Kb Hj
 case' _ =>
  go_wp2_with (at_builtin;refine zAz _ rfl (.const (.slice none 0 0)) (.tmp 275) 39 rfl zBl W2.heap.size _ 0 [] rfl (World.ownsRow_nil _ _ _ _) (.slice Al m.log.length cl) m.log.length (m.log.map Value.string) rfl Vb.out (zBf _) Kn.out.1 Kn.out.2 (mC _) ?_)
  intro u w3 hu Vc _;have h3:=zAk Vc (mC _) (fun k e=>by cases e);obtain ⟨Au,cu,rfl,-⟩:=zAi hu;have Kc:=mA (He.out.below h3);have Hd:=mA (Hb.out.1.same h3);have Ko:=mA (zCn hu Hb.out.2.len Hb.out.2.each);obtain ⟨-,-,-,-,-,-,-,z7⟩:=cz8 Hd.out;have zz:=Hd.out.frozen;have zl:=Hd.out.lt;clear hu h3 m7 ml a0 a1 a2 a3 a4 a5 a6 a7 a8 al d0 d1 d2 d3 d4 dl;go_upto_region 61 with fail
 rotate_left
 case' _ =>
  go_wp2_with fail
  refine (zAp _ m.log _ 0 Hb.out.2).mono ?_;rintro e w3 ⟨⟨u,rfl,hu⟩,h3⟩;obtain ⟨Au,cu,rfl,-⟩:=zAi hu;have Kc:=mA (He.out.below h3);have Hd:=mA (Hb.out.1.same h3);have Ko:=mA (zCn hu Hb.out.2.len Hb.out.2.each);obtain ⟨-,-,-,-,-,-,-,z7⟩:=cz8 Hd.out;have zz:=Hd.out.frozen;have zl:=Hd.out.lt;clear hu h3 m7 ml a0 a1 a2 a3 a4 a5 a6 a7 a8 al d0 d1 d2 d3 d4 dl;go_upto_region 8 with fail
 all_goals
  obtain ⟨W4,Hs⟩:=mJ (w3.setCell ⟨gm,7,none⟩ (.slice Au m.log.length cu));have Ha:=Kc.out.net.farMsg (i:=7) Hd.out (by show some gf≠some gm;intro e;cases e;omega) Ka (.slice Au m.log.length cu);have Kp:Blk W4 gm 99 (mN m Au m.log.length cu):=by rw [Hs];exact Hd.out.set_ 7 _
  have Kq:IsStrs W4 0 (.slice Au m.log.length cu) m.log:=by rw [Hs];exact Ko.out.same (Ts:=[9]) (by simp) (Ha.2.2.mono (by simp) (mC _))
  rw [<- Hs] at Ha ⊢;have Vd:=mA Ha.1;have Kr:=mA (Kc.out.fr.trans Ha.2);have Ht:=mA Kp;have Ve:=mA Kq;obtain ⟨fss,Ks⟩:=Ha.1.fly;have Kt:=mA Ks;obtain ⟨-,-,d2,-⟩:=cz4 Ha.1.box;have dl:=Ha.1.box.lt;have Hf:base<=W4.heap.size:=mD hb Kr.out.size;clear Ha Kp Kq Hs Ks z7 zz zl;go_wp2_with fail
  have Hh:=mB (show W4.drew.cell? ⟨gx,2,none⟩=_ from d2) Ht.out.drew;refine rgF (fun w'=>w'.cell? ⟨gx,2,none⟩=some (.slice (some ⟨gf,0,none⟩) x.flying.length e2)/\Blk w' gm 99 (mN m Au m.log.length cu)) [10] [0,1,2,3,4,5] Hh ?_;iterate 6
   (refine tkc (v:=?_) rfl (Or.inl ⟨by rfl,?_⟩) ?_;rotate_left;(intro wv Hg;(have d2:=Hg.1;obtain ⟨m0,m1,m2,m3,m4,m5,m6,m7⟩:=cz8 Hg.2);go_simp;with_reducible rfl);(try simp only [Act.put,zp1,zp2,zp3]))
  refine tkz (fun Hy=>?_);refine alF 6 (fun KA Ho=>?_);go_simp;have Hc:=(zAa W4 (.cells (mN m Au m.log.length cu) 99)).drew;refine Ho _ _ ⟨.inr ⟨cW Hc dl d2,Ht.out.same Hc⟩,?_⟩;refine puT ?_;refine alF 7 (fun KB Hq=>?_);rw [if_pos (by rfl)];refine zCi _ _ _ 25 rfl zCr base _ x.flying.length fss.flatten rfl (zAg Kt.out.row Hc) (.slice (some ⟨W4.heap.size,0,none⟩) 1 1) 1 (msgV m (.slice Au m.log.length cu)) rfl ⟨rfl,.inr ⟨_,_,rfl,zNx⟩⟩ zNy (by unfold maxLen;omega) (by omega) (mD Hf Hc.size) ?_;intro v4 x4 h4 Kd _;obtain ⟨Ke,g2,gz,gl⟩:=zIf Vd.out Kt.out Ve.out Hf (by unfold R47;omega) rfl h4 Kd;have Kf:=(Kd.block gm (Ht.out.same Hc).lt (fun e=>by have e2:some gm=some gf:=e;have:=Option.some.inj e2;omega)).trans (Ht.out.same Hc);obtain ⟨A9,c9,rfl,-⟩:=zAi h4;have Ku:=mA (mB Ke.1.e (Kr.out.trans Ke.2));refine Hq _ _ ⟨.inr ⟨g2,Kf⟩,?_⟩;refine puT ?_;refine tkFs 16 [8,9] (show _/\_ from ⟨g2,Kf⟩) (shF (shF Hy 6) 7) ?_;iterate 2
   (refine tkc (v:=?_) rfl (Or.inl ⟨by rfl,?_⟩) ?_;rotate_left;(intro wv Hg;skip;go_simp;with_reducible rfl);(try simp only [Act.put,zp1,zp2,zp3]))
  refine tkz (fun Hy=>?_);clear Ke h4 Kd Kf Hc;refine alF 10 (fun KC Vf=>?_);go_simp;refine Vf _ _ ⟨.inl (by simp),zAe (by kernel_rfl) ?_ _⟩;refine puT ?_;clear g2 gz gl d2 dl;go_wp2
  go_ret
  exact ⟨zAb (zAd HE.out.2.symm),by rw [HE.out.1];exact Ku.out.1,Ku.out.2⟩
end Go.Proofs.YtlngfbngnnepiaaGreat
