/- Part 31: words and walks under the laws of the whole. -/
import Derived.Test.YtlngfbngnnepiaaGreatZZ18
import Derived.Test.YtlngfbngnnepiaaGreatZZ26
import Derived.Test.YtlngfbngnnepiaaGreatZZ30
set_option linter.unusedVariables false
set_option linter.unusedSimpArgs false
set_option maxHeartbeats 4000000
set_option maxRecDepth 100000
namespace Go.Proofs.YtlngfbngnnepiaaGreat
open Go.RowKit
theorem zLk {w w':World} {base:Nat} {hv wv gv nv:Value} (h:ForgO w w' hv wv gv nv) (hb:base<=w.heap.size) :
 OwnOnes 3 8 vInt w' base hv [0,0,0]/\OwnOnes 4 1 Value.bool w' base wv [false,false,false]/\OwnKs w' base gv [Scu.kept0,Scu.kept0,Scu.kept0] [zeroK,zeroK,zeroK]/\OwnOnes 4 1 Value.bool w' base nv [false,false,false]/\(∀ g,wv.ownBlock=some g->nv.ownBlock≠some g):=by
 obtain ⟨a,b,c,d,rfl,rfl,rfl,rfl,ha,Ha,hc,hd,Hb,h1,h2,h3,h4⟩:=h;refine ⟨⟨zLd (xs:=[vInt 0,vInt 0,vInt 0]) h1 (by omega) rfl (by decide),by simp [R47]⟩,⟨zLd (xs:=[Value.bool false,Value.bool false,Value.bool false]) h2 (by omega) rfl (by decide),by simp [R47]⟩,zKk h3 (by omega),⟨zLd (xs:=[Value.bool false,Value.bool false,Value.bool false]) h4 (by omega) rfl (by decide),by simp [R47]⟩,fun g e e'=>?_⟩;simp only [Value.ownBlock,Option.some.injEq] at e e'
 omega
theorem zLl (g:Nat) (r:Scu.Replica) (lu hv wv gv nv:Value) (v:Int) (base:Nat) (w:World) (hB:Blk w g 47 #[.int .i64 r.me,.int .i64 r.kept.view,.int .i64 r.kept.normal,.bool r.kept.calm,lu,.int .i64 r.kept.commit,hv,wv,gv,nv]) (hl:OwnStrs w base lu r.kept.log) (hg:base<=g) (Hw:0<=r.me) (Hx:r.me < 3)
 (rr:Scu.Replica) (ms:List Scu.Message) (Ha:Scu.want r v=(rr,ms)) :
 Calls Tryz.prog 70 #[.pointer (some ⟨g,0,none⟩),.int .i64 v] w fun e w'=>(∃ Ao co css Hg wv' gv' nv',e=.returned (.slice Ao ms.length co)/\Blk w' g 47 #[.int .i64 rr.me,.int .i64 rr.kept.view,.int .i64 rr.kept.normal,.bool rr.kept.calm,lu,.int .i64 rr.kept.commit,Hg,wv',gv',nv']/\OwnRep w' base lu Hg wv' gv' nv' rr/\OwnMs w' base (.slice Ao ms.length co) ms css)/\Below base w w'/\Same [9,99] 0 w w':=by
 have Hy:=hB.lt;have HL:=mA (mB hl hB);have Hj:=mA Ha;obtain ⟨-,d1,-,d3⟩:=cz4 hB;have dz:=hB.frozen;clear hl hB Ha;go_enter Tryz.func70,Tryz.ntmps70
 go_upto_region 3 with fail
 obtain ⟨W1,Hb⟩:=mJ ((w.setCell ⟨g,1,none⟩ (.int .i64 v)).setCell ⟨g,3,none⟩ (.bool false));rw [<- Hb];have Hk:Blk W1 g 47 #[.int .i64 r.me,.int .i64 v,.int .i64 r.kept.normal,.bool false,lu,.int .i64 r.kept.commit,hv,wv,gv,nv]:=by rw [Hb];exact (HL.out.2.set_ 1 _).set_ 3 _
 have Hl:Same [9] 0 w W1:=by rw [Hb];exact (Same.set_ HL.out.2 (mE _) (by decide) 1 _).trans (Same.set_ (HL.out.2.set_ 1 _) (mE _) (by decide) 3 _)
 have Hm:Same [9,99] 0 w W1:=by rw [Hb];exact (Same.set_ HL.out.2 (mE _) (by decide) 1 _).trans (Same.set_ (HL.out.2.set_ 1 _) (mE _) (by decide) 3 _)
 have Hh:Below base w W1:=by rw [Hb];exact ((mG base w).setCell (p:=⟨g,1,none⟩) hg _).setCell (p:=⟨g,3,none⟩) hg _
 have Hn:base<=W1.heap.size:=mD (by omega) Hh.size;clear Hb d1 d3 dz;go_wp2_with fail
 refine (zFd g _ _ _ _ _ _ _ _ _ _ W1 Hk).mono ?_;rintro en w2 ⟨rfl,⟨Hg,wv',gv',nv',Hc,_,_,_,_,hF⟩,Hi,Ho⟩;have Hr:=mA (Hm.trans (Hi.mono (by simp) (mC _)));clear Hm;have HO:=mA (zLk hF Hn);obtain ⟨a,b,c,d,rfl,rfl,rfl,rfl,ha,Hs,hc,hd,Ht,_,hq,_,_⟩:=hF;have Hd:OwnRep w2 base lu (.slice (some ⟨a,0,none⟩) 3 3) (.slice (some ⟨b,0,none⟩) 3 3) (.slice (some ⟨c,0,none⟩) 3 3) (.slice (some ⟨d,0,none⟩) 3 3) (Scu.fresh { r with kept:={ r.kept with view:=v,calm:=false } }) :=
  ⟨⟨(HL.out.1.same Hl).same (Hi.mono (by simp) (mC _)),HO.out.1,HO.out.2.1,HO.out.2.2.2.1,HO.out.2.2.2.2⟩,_,HO.out.2.2.1⟩
 have hu:w2.cell? ⟨b,r.me.toNat,none⟩=some (.bool false):=by
  rw [hq.cell];have:r.me.toNat=0\/r.me.toNat=1\/r.me.toNat=2:=by omega
  rcases this with h | h | h <;> rw [h] <;> rfl
 have dz:=hq.frozen r.me.toNat;obtain ⟨d0,-,-,-,-,-,-,d7⟩:=cz8 Hc;have dl:=Hc.lt;have ngb:g≠b:=zAw Hc hq (by decide);have H2:=mA (mB Hd (mB hq (mB Hc (mB (Hh.trans (Ho base hg)) (show base<=b from mD Hn Hs)))));clear Hd hq Hc Hh Hl Hi Ho Hk ha hc hd Ht HO;go_wp2_with fail
 go_region
 obtain ⟨W3,He⟩:=mJ ((w2.setCell ⟨b,r.me.toNat,none⟩ (.bool true)).drew);rw [<- He];have Ha:rr = { Scu.fresh { r with kept:={ r.kept with view:=v,calm:=false } } with wants:=[false,false,false].set r.me.toNat true }:=(congrArg Prod.fst Hj.out).symm;have H3:=mA (show OwnRep W3 base lu (.slice (some ⟨a,0,none⟩) 3 3) (.slice (some ⟨b,0,none⟩) 3 3) (.slice (some ⟨c,0,none⟩) 3 3) (.slice (some ⟨d,0,none⟩) 3 3) rr/\Blk W3 g 47 #[.int .i64 r.me,.int .i64 v,.int .i64 r.kept.normal,.bool false,lu,.int .i64 r.kept.commit,.slice (some ⟨a,0,none⟩) 3 3,.slice (some ⟨b,0,none⟩) 3 3,.slice (some ⟨c,0,none⟩) 3 3,.slice (some ⟨d,0,none⟩) 3 3]/\Below base w W3 from by
  rw [He,Ha];exact ⟨(H2.out.1.put_wants H2.out.2.1 r.me.toNat true).same (Same.drew _),(H2.out.2.2.1.far (p:=⟨b,r.me.toNat,none⟩) ngb _).drew,(H2.out.2.2.2.1.setCell (p:=⟨b,r.me.toNat,none⟩) H2.out.2.2.2.2 _).drew⟩)
 have Hu:=mA (Hr.out.trans (show Same [9,99] 0 w2 W3 by rw [He];exact (Same.set_ H2.out.2.1 (mE _) (by decide) r.me.toNat _).trans (Same.drew _)));have Hp:ms=Scu.toAll r.me v { Scu.msg0 with kind:=3 }:=(congrArg Prod.snd Hj.out).symm;have Hq:=mA (mB Hp Ha);clear He d0 d7 dz dl hu Hp Ha H2 ngb;have Hf:=H3.out.2.1;obtain ⟨s0,s1,s2,s3,s4,s5,s6,s7,s8,s9⟩:=cz10 Hf;have sz:=Hf.frozen;have sl:=Hf.lt;clear Hf;obtain ⟨Al,nl,cl,rfl⟩:=H3.out.1.is.log.form;go_wp2_with fail
 refine (zOb r.me v r.kept.normal false (.slice Al nl cl) r.kept.commit (.slice (some ⟨a,0,none⟩) 3 3) (.slice (some ⟨b,0,none⟩) 3 3) (.slice (some ⟨c,0,none⟩) 3 3) (.slice (some ⟨d,0,none⟩) 3 3) (.slice none 0 0) { Scu.msg0 with kind:=3 } _ 0 (mE _) IsStrs.nil_).mono ?_;rintro en w4 ⟨⟨ov,css,rfl,ho⟩,h4⟩;rw [show partAll r.me v { Scu.msg0 with kind:=3 } 3=ms from Hq.out.1.symm] at ho;obtain ⟨Ao,co,rfl⟩:=ho.form;have H4:=mA (mB (H3.out.1.below h4) (mB (H3.out.2.1.same h4) (mB (H3.out.2.2.trans (h4.mono (mD (by omega) H3.out.2.2.size))) (ho.base_ (mD (show base<=w.heap.size by omega) H3.out.2.2.size)))));have Hv:=mA (Hu.out.trans (Same.below h4));clear ho h4;go_wp2
 go_ret
 refine ⟨⟨_,_,css,_,_,_,_,rfl,?_,H4.out.1,H4.out.2.2.2⟩,H4.out.2.2.1,Hv.out⟩;rw [Hq.out.2];exact H4.out.2.1
structure RWk (w:World) (base gr:Nat) (r:Scu.Replica) (lu hv wv gv nv:Value):Prop where
 rb:Blk w gr 47 #[.int .i64 r.me,.int .i64 r.kept.view,.int .i64 r.kept.normal,.bool r.kept.calm,lu,.int .i64 r.kept.commit,hv,wv,gv,nv]
 own:OwnRep w base lu hv wv gv nv r
 lr:base<=gr
def RWkE (w:World) (base gr:Nat) (r:Scu.Replica):Prop:=∃ lu hv wv gv nv,RWk w base gr r lu hv wv gv nv
section
variable {w w':World} {base gr g c n:Nat} {r:Scu.Replica} {lu hv wv gv nv:Value}
theorem RWk.e (h:RWk w base gr r lu hv wv gv nv):RWkE w base gr r:=⟨_,_,_,_,_,h⟩
theorem RWk.below (h:RWk w base gr r lu hv wv gv nv) (hb:Below w.heap.size w w'):RWk w' base gr r lu hv wv gv nv:=⟨h.rb.same hb,h.own.below hb,h.lr⟩
theorem RWkE.below (h:RWkE w base gr r) (hb:Below w.heap.size w w'):RWkE w' base gr r:=let ⟨_,_,_,_,_,h⟩:=h;(h.below hb).e
theorem RWk.base_le (h:RWk w base gr r lu hv wv gv nv):base<=w.heap.size:=Nat.le_of_lt (Nat.lt_of_le_of_lt h.lr h.rb.lt)
theorem RWk.rcell (h:RWk w base gr r lu hv wv gv nv) (i:Nat) (u:Value):OwnRep (w.setCell ⟨gr,i,none⟩ u) base lu hv wv gv nv r/\Below base w (w.setCell ⟨gr,i,none⟩ u) :=
 ⟨h.own.same (Same.set_ (Ts:=[9,3,4,42]) h.rb (mE _) (by decide) i _),(mG base w).setCell (p:=⟨gr,i,none⟩) h.lr _⟩
theorem RWk.set_commit (h:RWk w base gr r lu hv wv gv nv) (x:Int):RWk (w.setCell ⟨gr,5,none⟩ (.int .i64 x)) base gr { r with kept:={ r.kept with commit:=x } } lu hv wv gv nv :=
 let b:=(h.rcell 5 (.int .i64 x)).1
 ⟨h.rb.set_ 5 _,⟨⟨b.own.log,b.own.have_,b.own.wants,b.own.given,b.own.apart⟩,b.giv⟩,h.lr⟩
theorem RWk.set_log (h:RWk w base gr r lu hv wv gv nv) {v:Value} {l:List Scu.Str} (hl:OwnStrs w base v l):RWk (w.setCell ⟨gr,4,none⟩ v) base gr { r with kept:={ r.kept with log:=l } } v hv wv gv nv :=
 let b:=(h.rcell 4 v).1
 ⟨h.rb.set_ 4 _,⟨⟨hl.same (B:=0) (Same.set_ (Ts:=[9]) h.rb (mE _) (by decide) 4 _),b.own.have_,b.own.wants,b.own.given,b.own.apart⟩,b.giv⟩,h.lr⟩
theorem RWk.set_kept (h:RWk w base gr r lu hv wv gv nv) {k:Scu.Kept} {lx:Value} (hl:OwnStrs w base lx k.log):RWk (((((w.setCell ⟨gr,1,none⟩ (.int .i64 k.view)).setCell ⟨gr,2,none⟩ (.int .i64 k.normal)).setCell ⟨gr,3,none⟩ (.bool k.calm)).setCell ⟨gr,4,none⟩ lx).setCell ⟨gr,5,none⟩ (.int .i64 k.commit)) base gr { r with kept:=k } lx hv wv gv nv/\Below base w (((((w.setCell ⟨gr,1,none⟩ (.int .i64 k.view)).setCell ⟨gr,2,none⟩ (.int .i64 k.normal)).setCell ⟨gr,3,none⟩ (.bool k.calm)).setCell ⟨gr,4,none⟩ lx).setCell ⟨gr,5,none⟩ (.int .i64 k.commit)):=by
 have hs:Same [9,3,4,42] 0 w (((((w.setCell ⟨gr,1,none⟩ (.int .i64 k.view)).setCell ⟨gr,2,none⟩ (.int .i64 k.normal)).setCell ⟨gr,3,none⟩ (.bool k.calm)).setCell ⟨gr,4,none⟩ lx).setCell ⟨gr,5,none⟩ (.int .i64 k.commit)):=Same.set5 h.rb (by decide) _ _ _ _ _ _ _ _ _ _;have ho:=h.own.same hs;refine ⟨⟨((((h.rb.set_ 1 _).set_ 2 _).set_ 3 _).set_ 4 _).set_ 5 _,⟨⟨hl.same (hs.mono (by simp) (mC _)),ho.own.have_,ho.own.wants,ho.own.given,ho.own.apart⟩,ho.giv⟩,h.lr⟩,?_⟩;exact (((((mG base w).setCell (p:=⟨gr,_,none⟩) h.lr _).setCell (p:=⟨gr,_,none⟩) h.lr _).setCell (p:=⟨gr,_,none⟩) h.lr _).setCell (p:=⟨gr,_,none⟩) h.lr _).setCell (p:=⟨gr,_,none⟩) h.lr _
theorem RWk.put_have (h:RWk w base gr r lu (.slice (some ⟨g,0,none⟩) n c) wv gv nv) {cur:Array Value} (hB:Blk w g 3 cur) (hg:base<=g) (j:Nat) (x:Int) :
 RWk (w.setCell ⟨g,j,none⟩ (.int .i64 x)) base gr { r with have_:=r.have_.set j x } lu (.slice (some ⟨g,0,none⟩) n c) wv gv nv/\Below base w (w.setCell ⟨g,j,none⟩ (.int .i64 x)):=by
 have hs:Same [9,4,42,47] 0 w (w.setCell ⟨g,j,none⟩ (.int .i64 x)):=Same.set_ hB (mE _) (by decide) j _;obtain ⟨css',Ha⟩:=h.own.giv;exact ⟨⟨zAc h.rb hs (by simp),⟨⟨h.own.own.log.same (hs.mono (by simp) (mC _)),h.own.own.have_.put j x,h.own.own.wants.same (hs.mono (by simp) (mC _)),h.own.own.given.same (hs.mono (by simp) (mC _)),h.own.own.apart⟩,css',Ha.same (hs.mono (by simp) (mC _))⟩,h.lr⟩,
  (mG base w).setCell (p:=⟨g,j,none⟩) hg _⟩
theorem RWk.put_wants (h:RWk w base gr r lu hv (.slice (some ⟨g,0,none⟩) n c) gv nv) {cur:Array Value} (hB:Blk w g 4 cur) (hg:base<=g) (j:Nat) (b:Bool) :
 RWk (w.setCell ⟨g,j,none⟩ (.bool b)) base gr { r with wants:=r.wants.set j b } lu hv (.slice (some ⟨g,0,none⟩) n c) gv nv/\Below base w (w.setCell ⟨g,j,none⟩ (.bool b)) :=
 have hs:Same [47] 0 w (w.setCell ⟨g,j,none⟩ (.bool b)):=Same.set_ hB (mE _) (by decide) j _
 ⟨⟨zAc h.rb hs (by simp),h.own.put_wants hB j b,h.lr⟩,(mG base w).setCell (p:=⟨g,j,none⟩) hg _⟩
theorem RWk.put_given (h:RWk w base gr r lu hv wv gv (.slice (some ⟨g,0,none⟩) n c)) {cur:Array Value} (hB:Blk w g 4 cur) (hg:base<=g) (j:Nat) (b:Bool) :
 RWk (w.setCell ⟨g,j,none⟩ (.bool b)) base gr { r with given:=r.given.set j b } lu hv wv gv (.slice (some ⟨g,0,none⟩) n c)/\Below base w (w.setCell ⟨g,j,none⟩ (.bool b)):=by
 have hs:Same [9,3,42,47] 0 w (w.setCell ⟨g,j,none⟩ (.bool b)):=Same.set_ hB (mE _) (by decide) j _;obtain ⟨css',Ha⟩:=h.own.giv;exact ⟨⟨zAc h.rb hs (by simp),⟨⟨h.own.own.log.same (hs.mono (by simp) (mC _)),h.own.own.have_.same (hs.mono (by simp) (mC _)),h.own.own.wants.far (fun e=>h.own.own.apart g e rfl) _,h.own.own.given.put j b,h.own.own.apart⟩,css',Ha.same (hs.mono (by simp) (mC _))⟩,h.lr⟩,
  (mG base w).setCell (p:=⟨g,j,none⟩) hg _⟩
theorem RWk.put_gives {i:Nat} (h:RWk w base gr r lu hv wv (.slice (some ⟨g,0,none⟩) n c) nv) (hi:i < r.gives.length) {k:Scu.Kept} {lx:Value} (hx:IsStrs w 0 lx k.log) :
 RWk (((((w.setCell ⟨g,i*5,none⟩ (.int .i64 k.view)).setCell ⟨g,i*5+1,none⟩ (.int .i64 k.normal)).setCell ⟨g,i*5+2,none⟩ (.bool k.calm)).setCell ⟨g,i*5+3,none⟩ lx).setCell ⟨g,i*5+4,none⟩ (.int .i64 k.commit)) base gr { r with gives:=r.gives.set i k } lu hv wv (.slice (some ⟨g,0,none⟩) n c) nv/\Below base w (((((w.setCell ⟨g,i*5,none⟩ (.int .i64 k.view)).setCell ⟨g,i*5+1,none⟩ (.int .i64 k.normal)).setCell ⟨g,i*5+2,none⟩ (.bool k.calm)).setCell ⟨g,i*5+3,none⟩ lx).setCell ⟨g,i*5+4,none⟩ (.int .i64 k.commit)):=by
 obtain ⟨css',Ha⟩:=h.own.giv;obtain ⟨hb,cur,hB⟩:=zBm Ha.row;have hs:Same [9,3,4,47] 0 w (((((w.setCell ⟨g,i*5,none⟩ (.int .i64 k.view)).setCell ⟨g,i*5+1,none⟩ (.int .i64 k.normal)).setCell ⟨g,i*5+2,none⟩ (.bool k.calm)).setCell ⟨g,i*5+3,none⟩ lx).setCell ⟨g,i*5+4,none⟩ (.int .i64 k.commit)):=Same.set5 hB (by decide) _ _ _ _ _ _ _ _ _ _;refine ⟨⟨zAc h.rb hs (by simp),⟨(let o:=h.own.own.same (hs.mono (by simp) (mC _));⟨o.log,o.have_,o.wants,o.given,o.apart⟩),_,Ha.put hi hx⟩,h.lr⟩,?_⟩;exact ((((mG base w).setCell (p:=⟨g,_,none⟩) hb _).setCell (p:=⟨g,_,none⟩) hb _).setCell (p:=⟨g,_,none⟩) hb _).setCell (p:=⟨g,_,none⟩) hb _ |>.setCell (p:=⟨g,_,none⟩) hb _
structure BS (base:Nat) (w w':World):Prop where
 low:Below base w w'
 same:Same [9,99] 0 w w'
theorem BS.refl (base:Nat) (w:World):BS base w w:=⟨mG _ _,Same.refl _ _ _⟩
theorem BS.trans {base:Nat} {a b c:World} (h:BS base a b) (k:BS base b c):BS base a c:=⟨h.low.trans k.low,h.same.trans k.same⟩
theorem BS.of {base:Nat} {a b c:World} (h:BS base a b) (k:Below b.heap.size b c) (hb:base<=b.heap.size):BS base a c:=⟨h.low.trans (k.mono hb),h.same.trans (Same.below k)⟩
theorem BS.drew {base:Nat} {a b:World} (h:BS base a b):BS base a b.drew:=⟨h.low.drew,h.same.trans (Same.drew _)⟩
theorem zOc (h:RWk w base gr r lu hv wv gv nv):Calls Tryz.prog 31 #[.pointer (some ⟨gr,0,none⟩)] w fun e w'=>e=.returned (.tuple #[])/\RWkE w' base gr (Scu.fresh r)/\BS base w w':=by
 refine (zFd gr _ _ _ _ _ _ _ _ _ _ w h.rb).mono ?_;rintro e w' ⟨rfl,⟨Hd,wv',gv',nv',Hb,_,_,_,_,hF⟩,Ha,Hc⟩;obtain ⟨o1,o2,o3,o4,o5⟩:=zLk hF h.base_le;exact ⟨rfl,⟨_,_,_,_,_,Hb,⟨⟨h.own.own.log.same (Ha.mono (by simp) (mC _)),o1,o2,o4,o5⟩,_,o3⟩,h.lr⟩,Hc base h.lr,Ha.mono (by simp) (mC _)⟩
end
open Go.RowKit
theorem zFv {w:World} {g n:Nat} {t:TypeId} {cs:Array Value} (h:Blk w g t cs) (hn:cs.size=n:=by rfl):w.there g 0 n:=fun j hj=>by
 rw [Nat.zero_add,h.cell];exact ⟨by simp [hn,hj],h.frozen j⟩
theorem zGd {a b:Int} {c:Bool} {A:Option Addr} {n m:Nat} {e:Int} : (#[.int .i64 a,.int .i64 b,.bool c,.slice A n m,.int .i64 e]:Array Value).all (·.oneCell')=true:=by
 simp [Value.oneCell']
theorem zZy (A0:Option Addr) (c0:Nat) (A1:Option Addr) (c1:Nat) (A2:Option Addr) (c2:Nat) (A3:Option Addr) (c3:Nat) (A4:Option Addr) (c4:Nat) (r:Scu.Replica) (w:World) (hx:IsStrs w 0 (.slice A0 r.kept.log.length c0) r.kept.log) :
 Calls Tryz.prog 99 #[.agg #[.int .i64 r.me,.int .i64 r.kept.view,.int .i64 r.kept.normal,.bool r.kept.calm,.slice A0 r.kept.log.length c0,.int .i64 r.kept.commit,.slice A1 r.have_.length c1,.slice A2 r.wants.length c2,.slice A3 r.gives.length c3,.slice A4 r.given.length c4]] w fun e w'=>(∃ Au cu,e=.returned (.agg #[.int .i64 r.kept.view,.int .i64 r.kept.normal,.bool false,.slice Au r.kept.log.length cu,.int .i64 r.kept.commit])/\OwnStrs w' w.heap.size (.slice Au r.kept.log.length cu) r.kept.log)/\Below w.heap.size w w':=by
 obtain ⟨⟨A',c',e,Hz,Hn⟩,hl,he⟩:=hx;cases e
 have Hv:=hl;unfold R47 at Hv;have Hk:Below w.heap.size w ((w.alloc (.cells (rN r A0 r.kept.log.length c0 A1 c1 A2 c2 A3 c3 A4 c4) 47)).alloc (.cells #[.int .i64 0,.int .i64 0,.bool false,.slice none 0 0,.int .i64 0] 42)):=(zAa w _).alloc (by simp) _;have Hl:Blk ((w.alloc (.cells (rN r A0 r.kept.log.length c0 A1 c1 A2 c2 A3 c3 A4 c4) 47)).alloc (.cells #[.int .i64 0,.int .i64 0,.bool false,.slice none 0 0,.int .i64 0] 42)) w.heap.size 47 (rN r A0 r.kept.log.length c0 A1 c1 A2 c2 A3 c3 A4 c4):=(Blk.new w _ _).alloc _;have Hd:Blk ((w.alloc (.cells (rN r A0 r.kept.log.length c0 A1 c1 A2 c2 A3 c3 A4 c4) 47)).alloc (.cells #[.int .i64 0,.int .i64 0,.bool false,.slice none 0 0,.int .i64 0] 42)) (w.heap.size+1) 42 #[.int .i64 0,.int .i64 0,.bool false,.slice none 0 0,.int .i64 0]:=Blk.new' (by simp);have Ha:=(Hn.alloc (.cells (rN r A0 r.kept.log.length c0 A1 c1 A2 c2 A3 c3 A4 c4) 47)).alloc (.cells #[.int .i64 0,.int .i64 0,.bool false,.slice none 0 0,.int .i64 0] 42);go_enter Tryz.func99,Tryz.ntmps99
 go_upto_region 1 with fail
 obtain ⟨Wd,Hm⟩:=mJ (((w.alloc (.cells (rN r A0 r.kept.log.length c0 A1 c1 A2 c2 A3 c3 A4 c4) 47)).alloc (.cells #[.int .i64 0,.int .i64 0,.bool false,.slice none 0 0,.int .i64 0] 42)));have Ka:Wd.heap.size=w.heap.size+2:=by rw [Hm];simp
 rw [<- Hm] at Hk Hl Hd Ha ⊢;clear Hm;obtain ⟨-,x1,x2,-,x4,x5⟩:=cz6 Hl;have Hw:=mA Hd;have Hx:=mA Hk;have HE:=mA he;have Hy:=mA (zAq (size:=1) (m:=r.kept.log.length) (c:=c0) (Ha.drewN 1) (by simp) (fun e=>by subst e;have:=zBi Ha;simpa using this));have Hi:w.heap.size < w.heap.size+1:=Nat.lt_succ_self _;clear Hl Hd Hk Hn Ha he;obtain ⟨S,Hf⟩:∃ S:World->Prop,S=fun w'=>Below (w.heap.size+1) Wd w':=⟨_,rfl⟩
 have Hb:S Wd.drew:=by rw [Hf];exact (mG _ _).drew
 refine wp_region_held (S:=S) (by kernel_rfl) ?_;change wpAnyH _ _ _ _ _ _ _ _ Wd.drew;refine tkHs [0,1,2,3,4,5,6,7,8,9,10,11] (by kernel_rfl) (fun _ _ _ _ _ h=>h) Hb ?_;iterate 12
  refine tkc (v:=?_) rfl (Or.inl ⟨by rfl,?_⟩) ?_;rotate_left
  ·(intro wv He;rw [Hf] at He;have q1:=cW He Hi x1;have q2:=cW He Hi x2;have q4:=cW He Hi x4;have q5:=cW He Hi x5;go_simp;(try with_reducible rfl))
  (try simp only [Act.put,zp1,zp2,zp3])
 refine tkz ?_;refine alH 12 (by kernel_rfl) (wpOp_step (o:=_) rfl fun KA Ho=>?_);rw [if_pos (by rfl)];refine zCi _ (.const (.slice none 0 0)) (.tmp 14) 39 rfl zBl Wd.heap.size _ 0 [] rfl (World.ownsRow_nil _ _ _ _) (.slice A0 r.kept.log.length c0) r.kept.log.length (r.kept.log.map Value.string) rfl Hy.out (zBf _) (by unfold maxLen;omega) (by omega) (mC _) ?_;intro v4 x4 h4 Hp _;have Hj:Below Wd.heap.size Wd x4:=((mG Wd.heap.size Wd).drew).grown Hp (mC _) (fun q hq=>by cases hq);have h4:x4.ownsRow Wd.heap.size 9 1 v4 r.kept.log.length (r.kept.log.map Value.string):=by simpa only [Nat.zero_add,List.nil_append] using h4
 obtain ⟨Au,cu,rfl,_,_,_,_⟩:=zAi h4;have Hg:=Hw.out.same Hj;have Hb:S x4:=by rw [Hf];exact Hj.mono (by omega)
 refine Ho _ _ ⟨Hb,?_⟩;have Hc:=mA Hg;have H4:=mA (mB h4 Hj);clear h4 Hj Hg Ho Hp;refine puT ?_;refine tkHs [13] (by kernel_rfl) (fun _ _ _ _ _ h=>h) Hb ?_;iterate 1
  refine tkc (v:=?_) rfl (Or.inl ⟨by rfl,?_⟩) ?_;rotate_left
  ·(intro wv He;go_simp;(try with_reducible rfl))
  (try simp only [Act.put,zp1,zp2,zp3])
 refine tkz ?_;refine alH 14 (by kernel_rfl) (wpOp_step (o:=_) rfl fun KB Hd=>?_);rw [if_pos (by rfl)];refine wp_store_mid 42 (.tmp 2) (.tmp 16) rfl (w.heap.size+1) 0 #[.int .i64 r.kept.view,.int .i64 r.kept.normal,.bool false,.slice Au r.kept.log.length cu,.int .i64 r.kept.commit] rfl rfl (zFv Hc.out) (by kernel_rfl) zGd ?_;have Hq:S (x4.setCells (w.heap.size+1) 0 [.int .i64 r.kept.view,.int .i64 r.kept.normal,.bool false,.slice Au r.kept.log.length cu,.int .i64 r.kept.commit]):=by rw [Hf] at Hb ⊢;exact zAr (mC _) _ 0 _ _ Hb
 refine Hd _ _ ⟨Hq,wpAnyH_done (by kernel_rfl) ?_ _⟩;refine puT ?_;obtain ⟨W5,Hh⟩:=mJ (x4.setCells (w.heap.size+1) 0 [.int .i64 r.kept.view,.int .i64 r.kept.normal,.bool false,.slice Au r.kept.log.length cu,.int .i64 r.kept.commit]);change Exit.then _ _ _ _ (x4.setCells (w.heap.size+1) 0 [.int .i64 r.kept.view,.int .i64 r.kept.normal,.bool false,.slice Au r.kept.log.length cu,.int .i64 r.kept.commit]);have Hr:Blk W5 (w.heap.size+1) 42 #[.int .i64 r.kept.view,.int .i64 r.kept.normal,.bool false,.slice Au r.kept.log.length cu,.int .i64 r.kept.commit]:=by rw [Hh];exact zHu (vs:=[.int .i64 r.kept.view,.int .i64 r.kept.normal,.bool false,.slice Au r.kept.log.length cu,.int .i64 r.kept.commit]) Hc.out rfl
 have Hs:Below w.heap.size w W5:=by rw [Hh];exact zAr (by omega) _ 0 _ _ (Hx.out.trans (H4.out.2.mono (by omega)))
 have Ht:Same [9] 0 x4 W5:=by rw [Hh];exact Same.sets _ 0 _ _ Hc.out (by decide)
 have Hu:OwnStrs W5 w.heap.size (.slice Au r.kept.log.length cu) r.kept.log:=OwnStrs.same (OwnStrs.base_ ⟨H4.out.1,hl,HE.out⟩ (by omega)) Ht;rw [<- Hh];obtain ⟨r0,r1,r2,r3,r4⟩:=cz5 Hr;have HF:=mA (mB Hu Hs);clear Hh Hr Hs Ht Hu Hb Hq Hd Hf;go_wp2
 refine bodyPost_ret (v:=.agg #[.int .i64 r.kept.view,.int .i64 r.kept.normal,.bool false,.slice Au r.kept.log.length cu,.int .i64 r.kept.commit]) (by simp [results,Tryz.results99,go_sem,r0,r1,r2,r3,r4]) rfl ?_;exact ⟨⟨_,_,rfl,HF.out.1⟩,HF.out.2⟩
def AtF (r:Scu.Replica) (j m:Nat) (b:Scu.Kept) (at_:Int):Prop:=at_ = -1/\m=0/\b=Scu.best0\/∃ i:Nat,i < j/\at_=i/\r.gives[i]? = some b
theorem AtF.skip {r:Scu.Replica} {j m:Nat} {b:Scu.Kept} {at_:Int} (h:AtF r j m b at_):AtF r (j+1) m b at_ :=
 h.imp id fun ⟨i,h1,h2⟩=>⟨i,by omega,h2⟩
theorem AtF.stay {r:Scu.Replica} {j m i:Nat} {b:Scu.Kept} (h:i < j/\r.gives[i]? = some b):AtF r (j+1) (m+1) b i:=.inr ⟨i,by omega,rfl,h.2⟩
theorem AtF.move {r:Scu.Replica} {j m:Nat} {k:Scu.Kept} (h:r.gives[j]? = some k):AtF r (j+1) (m+1) k j:=.inr ⟨j,by omega,rfl,h⟩
theorem zKs {w:World} {g o n:Nat} (h:w.there g o n) (j m:Nat) (hj:j+m<=n):w.there g (o+j) m:=fun i hi=>by
 have:=h (j+i) (by omega);rwa [<- Nat.add_assoc] at this
theorem zK4 {P:Prop} (h:P:=by
 refine tkz ?_;refine wpAnyH_done (by kernel_rfl) ?_ _;change Exit.then _ _ _ _ Wa.drew;obtain ⟨Wb,Hd⟩:=mJ (Wa.drew);rw [<- Hd];have Hc:=mA (show RWk Wb base g r lu hv wv (.slice (some ⟨gg,0,none⟩) 3 cg) (.slice (some ⟨gn,0,none⟩) 3 cn)/\BS base w Wb by rw [Hd];exact ⟨Hk.out.1.below (mG _ _).drew,Hk.out.2.drew⟩);clear Hd He Hb;go_wp2_with fail
 go_roundw
 case rel=>first | exact ⟨j+1,m+1,j,co',k,by omega,rfl,rfl,rfl,rfl,by omega,Hh,Hc⟩ | ((repeat apply Exists.intro);exact ⟨⟨j+1,m+1,j,co',k,by omega,rfl,rfl,rfl,rfl,by omega,Hh,Hc⟩,rfl⟩)
 case measure=>first | (simp only [intOf];omega) | (simp [intOf];omega)):P:=h
theorem zL4 {P:Prop} (h:P:=by
 refine tkz ?_;refine wpAnyH_done (by kernel_rfl) ?_ _;change Exit.then _ _ _ _ Wa.drew;obtain ⟨Wb,Hd⟩:=mJ (Wa.drew);rw [<- Hd];have Hc:=mA (show RWk Wb base g r lu hv wv (.slice (some ⟨gg,0,none⟩) 3 cg) (.slice (some ⟨gn,0,none⟩) 3 cn)/\BS base w Wb by rw [Hd];exact ⟨Hk.out.1.below (mG _ _).drew,Hk.out.2.drew⟩);clear Hd He Hb;go_wp2_with fail
 go_roundw
 case rel=>first | exact ⟨j+1,m+1,(i:Int),co',b,by omega,rfl,rfl,rfl,rfl,by omega,Hh,Hc⟩ | ((repeat apply Exists.intro);exact ⟨⟨j+1,m+1,(i:Int),co',b,by omega,rfl,rfl,rfl,rfl,by omega,Hh,Hc⟩,rfl⟩)
 case measure=>first | (simp only [intOf];omega) | (simp [intOf];omega)):P:=h
theorem zM4 {P:Prop} (h:P:=by
 refine tkz ?_;refine wpAnyH_done (by kernel_rfl) ?_ _;change Exit.then _ _ _ _ wr.drew;obtain ⟨Wb,Hd⟩:=mJ (wr.drew);rw [<- Hd];have Hc:=mA (show RWk Wb base g r lu hv wv (.slice (some ⟨gg,0,none⟩) 3 cg) (.slice (some ⟨gn,0,none⟩) 3 cn)/\BS base w Wb by rw [Hd];exact ⟨HJ.out.1.below (mG _ _).drew,HJ.out.2.drew⟩);clear Hd He Hb;go_wp2
 go_ret
 obtain ⟨rfl,rfl⟩:=Prod.mk.inj Hs.out;first | exact ⟨⟨_,rfl,_,OwnMs.nil_⟩,Hc.out.1.e,Hc.out.2⟩ | exact ⟨⟨_,_,rfl,OwnMs.nil_⟩,Hc.out.1.e,Hc.out.2⟩):P:=h
theorem zN4 {P:Prop} (h:P:=by
 have Hm:=mA he;clear he;go_wp2_with fail
 go_meet
 exact ⟨by rw [Hm.out],rfl⟩):P:=h
theorem zO4 {P:Prop} (h:P:=by
 obtain ⟨_,⟨_,h0⟩ | ⟨g',cap,cur,e',_⟩⟩:=hx
 ·cases h0
 exact ⟨g',cap,e'⟩):P:=h
theorem zSg (g base:Nat) (r:Scu.Replica) (lu hv wv gv nv:Value) (w:World) (hR:RWk w base g r lu hv wv gv nv) (h3:Rep3 r) (hN:∀ k ∈ r.gives,0<=k.normal) (rr:Scu.Replica) (ms:List Scu.Message) (hb:Scu.begun r=(rr,ms)) :
 Calls Tryz.prog 100 #[.pointer (some ⟨g,0,none⟩)] w fun e w'=>(∃ ov css,e=.returned ov/\OwnMs w' base ov ms css)/\RWkE w' base g rr/\BS base w w':=by
 obtain ⟨gn,cn,rfl⟩:=ones3f hR.own.own.given h3.2.2.2.1;obtain ⟨kss,Hj⟩:=hR.own.giv;obtain ⟨gg,cg,rfl⟩:∃ gg cg,gv=.slice (some ⟨gg,0,none⟩) 3 cg:=by
  obtain ⟨A,c,e,_,hA,_,_⟩:=zAi Hj.row;have hx:=Hj.row;rw [h3.2.2.1] at hx e hA;exact zO4
 have HR:=mA hR;have H3:=mA h3;have HN:=mA hN;have HB:=mA hb;clear hR h3 hN hb Hj;go_enter Tryz.func100,Tryz.ntmps100
 go_wp2_with fail
 go_loopw [3,4,5,6] (fun mv av cv iv wr=>∃ (j m:Nat) (at_ co:Int) (b:Scu.Kept),j<=3/\mv=.int .i64 m/\av=.int .i64 at_/\cv=.int .i64 co/\iv=.int .i64 j/\m<=j/\Hid (BegF r j m co b/\AtF r j m b at_)/\Hid (RWk wr base g r lu hv wv (.slice (some ⟨gg,0,none⟩) 3 cg) (.slice (some ⟨gn,0,none⟩) 3 cn)/\BS base w wr)) (fun _ _ _ iv _=>3 - (intOf iv).toNat)
 case atStart=>exact ⟨0,0,-1,0,Scu.best0,mE _,rfl,rfl,rfl,rfl,mC _,mA ⟨⟨rfl,rfl,rfl⟩,.inl ⟨rfl,rfl,rfl⟩⟩,mA ⟨HR.out,BS.refl _ _⟩⟩
 case round =>
  obtain ⟨j,m,at_,co,b,hj,rfl,rfl,rfl,rfl,Vm,HF,HJ⟩:=hrel;by_cases Kd:j < 3
  ·have Vd:(j:Int) < 3:=by omega
   obtain ⟨_,_,_,_,Hu⟩:=ones3' HJ.out.1.own.own.given H3.out.2.2.2.1;obtain ⟨c,hc⟩:∃ c,r.given[j]? = some c:=⟨_,mH (by rw [H3.out.2.2.2.1];exact Kd)⟩;have dg:wr.cell? ⟨gn,j,none⟩=some (.bool c):=by rw [Hu _ Kd,List.getElem?_map,hc];rfl
   obtain ⟨-,-,-,-,-,-,-,-,d8,d9⟩:=cz10 HJ.out.1.rb;obtain ⟨kss,Hj⟩:=HJ.out.1.own.giv;obtain ⟨gz,lg,y0,y1,y2,y3,y4,Kj⟩:=Hj.cells (i:=j) (by rw [H3.out.2.2.1];exact Kd);obtain ⟨k,hk⟩:=mJ (r.gives[j]'(by rw [H3.out.2.2.1];exact Kd));have Kq:r.gives[j]? = some k:=by rw [hk];exact mH _
   have Vn:=HN.out k (by rw [hk];exact List.getElem_mem _);rw [<- hk] at y0 y1 y2 y4 Kj;obtain ⟨⟨Al,cl,rfl,_,_⟩,_,_⟩:=id Kj;have HC:=mA (mB Kq hc);clear Hu Hj gz hk Kq hc;cases c with
   | false =>
     have Hh:=mA (mB (HF.out.1.skip HC.out.1 HC.out.2) HF.out.2.skip);have Hc:=HJ;go_wp2_with fail
     go_roundw
     case rel=>first | exact ⟨j+1,m,at_,co,b,by omega,rfl,rfl,rfl,rfl,by omega,Hh,Hc⟩ | ((repeat apply Exists.intro);exact ⟨⟨j+1,m,at_,co,b,by omega,rfl,rfl,rfl,rfl,by omega,Hh,Hc⟩,rfl⟩)
     case measure=>first | (simp only [intOf];omega) | (simp [intOf];omega)
   | true =>
     go_upto_region 10 with fail
     have Hq:=zAa wr (.cells #[.int .i64 k.view,.int .i64 k.normal,.bool k.calm,.slice Al k.log.length cl,.int .i64 k.commit] 42);have Hv:=Blk.new wr 42 #[.int .i64 k.view,.int .i64 k.normal,.bool k.calm,.slice Al k.log.length cl,.int .i64 k.commit];have gl:=HJ.out.1.rb.lt;obtain ⟨Wa,Ke⟩:=mJ (wr.alloc (.cells #[.int .i64 k.view,.int .i64 k.normal,.bool k.calm,.slice Al k.log.length cl,.int .i64 k.commit] 42));obtain ⟨gb,Kk⟩:=mK (wr.heap.size);have Hk:=mA (show RWk Wa base g r lu hv wv (.slice (some ⟨gg,0,none⟩) 3 cg) (.slice (some ⟨gn,0,none⟩) 3 cn)/\BS base w Wa by rw [Ke];exact ⟨HJ.out.1.below Hq,HJ.out.2.of Hq HJ.out.1.base_le⟩);rw [<- Ke] at Hv Hq;have e8:=cW Hq gl d8;have gla:=mF gl Hq.size;rw [Kk] at Hv;rw [<- Ke,Kk];obtain ⟨b0,b1,b2,b3,b4⟩:=cz5 Hv;have gbl:=Hv.lt;clear Ke Kk Hv Hq y0 y1 y2 y3 y4 d8 d9 dg gl Kj HJ;have Hf:=HF.out.1.take_ HC.out.1 HC.out.2;obtain ⟨co',Kl⟩:=mK ((if co < k.commit then k.commit else co));rw [Kl] at Hf;have Hw:=mA Hf;have Kr:=mA Kl;clear Hf Kl;go_upto_if 33 with fail
     go_cut [5] from 34 to 35 (fun cv wx=>cv=.int .i64 co'/\wx=Wa)
     case first =>
      by_cases hlc:co < k.commit
      ·have he:=Kr.out;rw [if_pos hlc] at he;exact zN4
      have he:=Kr.out;rw [if_neg hlc] at he;exact zN4
     case rest =>
     obtain ⟨rfl,Hx⟩:=hcut;rw [Hx];clear Hx;go_upto_region 12 with fail
     rcases HF.out.2 with ⟨Hy,Ve,Ks⟩ | ⟨i,hi,Hy,Hr⟩
     ·have Hl:Scu.better k b=true:=by
       rw [Ks];unfold Scu.better Scu.best0;simp
       left
       omega
      have Hf:=Hw.out;rw [if_pos Hl] at Hf;have Hh:=mA (mB Hf (AtF.move (m:=m) HC.out.1));subst Hy;clear Hf Hl Ve Ks;obtain ⟨S,Hb⟩:∃ S:World->Prop,S=fun w'=>Below Wa.heap.size Wa w':=⟨_,rfl⟩
      have He:S Wa.drew:=by rw [Hb];exact (mG _ _).drew
      refine wp_region_held (S:=S) (by kernel_rfl) ?_;change wpAnyH _ _ _ _ _ _ _ _ Wa.drew;refine tkHs [0,1,2,3,4,5,6,7,8,9,10,11,12,13,14,15,16,17,18,19,20,21,22,23,24,25,26,27,28,29,30,31,32,33,34,35,36,37,38,39,40,41,42] (by kernel_rfl) (fun _ _ _ _ _ h=>h) He ?_;iterate 43
       first
       | (refine tkc (v:=?_) rfl (Or.inl ⟨by rfl,?_⟩) ?_;rotate_left;(intro wv Ha;rw [Hb] at Ha;skip;go_simp;with_reducible rfl);(try simp only [Act.put,zp1,zp2,zp3]))
       | (refine tkc (v:=undef) rfl (Or.inr ⟨by rfl,rfl⟩) ?_;(try simp only [Act.put,zp1,zp2,zp3]))
      exact zK4
     ·obtain ⟨kss,Hj⟩:=Hk.out.1.own.giv;have Hn:i < r.gives.length:=by rw [H3.out.2.2.1];omega
      obtain ⟨gz,lb,-,z1,-,z3,-,Ho⟩:=Hj.cells (i:=i) Hn;have Hz:r.gives[i]=b:=by have:=(mH Hn).symm.trans Hr;simpa using this
      rw [Hz] at z1 Ho;obtain ⟨⟨Ab,cb,rfl,_,_⟩,_,_⟩:=id Ho;have ggl:=World.block_lt_of_cell? Wa _ z1;have Vf:(i:Int) < 3:=by omega
      have Vo:¬ (i:Int) < 0:=by omega
      subst Hy;have Kt:=mA (mB hi Hr);clear Hj gz Ho Hz Hr Hn;by_cases hA:b.normal < k.normal
      ·have Hf:=Hw.out;rw [if_pos (show Scu.better k b=true by unfold Scu.better;simp [hA])] at Hf;have Hh:=mA (mB Hf (AtF.move (m:=m) HC.out.1));clear Hf;obtain ⟨S,Hb⟩:∃ S:World->Prop,S=fun w'=>Below Wa.heap.size Wa w':=⟨_,rfl⟩
       have He:S Wa.drew:=by rw [Hb];exact (mG _ _).drew
       refine wp_region_held (S:=S) (by kernel_rfl) ?_;change wpAnyH _ _ _ _ _ _ _ _ Wa.drew;refine tkHs [0,1,2,3,4,5,6,7,8,9,10,11,12,13,14,15,16,17,18,19,20,21,22,23,24,25,26,27,28,29,30,31,32,33,34,35,36,37,38,39,40,41,42] (by kernel_rfl) (fun _ _ _ _ _ h=>h) He ?_;iterate 43
        first
        | (refine tkc (v:=?_) rfl (Or.inl ⟨by rfl,?_⟩) ?_;rotate_left;(intro wv Ha;rw [Hb] at Ha;(have q1:=cW Ha gbl b1;have q3:=cW Ha gbl b3;have q8:=cW Ha gla e8;have q4:=cW Ha ggl z1;have q5:=cW Ha ggl z3);go_simp;with_reducible rfl);(try simp only [Act.put,zp1,zp2,zp3]))
        | (refine tkc (v:=undef) rfl (Or.inr ⟨by rfl,rfl⟩) ?_;(try simp only [Act.put,zp1,zp2,zp3]))
       exact zK4
      by_cases hE:k.normal=b.normal
      ·have Vg:(k.normal == b.normal)=true:=by simpa using hE
       by_cases hL:(b.log.length:Int) < (k.log.length:Int)
       ·have Hf:=Hw.out;rw [if_pos (show Scu.better k b=true by unfold Scu.better;simp [hE];omega)] at Hf;have Hh:=mA (mB Hf (AtF.move (m:=m) HC.out.1));clear Hf hE;obtain ⟨S,Hb⟩:∃ S:World->Prop,S=fun w'=>Below Wa.heap.size Wa w':=⟨_,rfl⟩
        have He:S Wa.drew:=by rw [Hb];exact (mG _ _).drew
        refine wp_region_held (S:=S) (by kernel_rfl) ?_;change wpAnyH _ _ _ _ _ _ _ _ Wa.drew;refine tkHs [0,1,2,3,4,5,6,7,8,9,10,11,12,13,14,15,16,17,18,19,20,21,22,23,24,25,26,27,28,29,30,31,32,33,34,35,36,37,38,39,40,41,42] (by kernel_rfl) (fun _ _ _ _ _ h=>h) He ?_;iterate 43
         first
         | (refine tkc (v:=?_) rfl (Or.inl ⟨by rfl,?_⟩) ?_;rotate_left;(intro wv Ha;rw [Hb] at Ha;(have q1:=cW Ha gbl b1;have q3:=cW Ha gbl b3;have q8:=cW Ha gla e8;have q4:=cW Ha ggl z1;have q5:=cW Ha ggl z3);go_simp;with_reducible rfl);(try simp only [Act.put,zp1,zp2,zp3]))
         | (refine tkc (v:=undef) rfl (Or.inr ⟨by rfl,rfl⟩) ?_;(try simp only [Act.put,zp1,zp2,zp3]))
        exact zK4
       have Hf:=Hw.out;have Hl:Scu.better k b=false:=by unfold Scu.better;simp [hE];omega
       rw [Hl,if_neg (show ¬ (false=true) by decide)] at Hf;have Hh:=mA (mB Hf (AtF.stay (m:=m) Kt.out));clear Hf Hl hE;obtain ⟨S,Hb⟩:∃ S:World->Prop,S=fun w'=>Below Wa.heap.size Wa w':=⟨_,rfl⟩
       have He:S Wa.drew:=by rw [Hb];exact (mG _ _).drew
       refine wp_region_held (S:=S) (by kernel_rfl) ?_;change wpAnyH _ _ _ _ _ _ _ _ Wa.drew;refine tkHs [0,1,2,3,4,5,6,7,8,9,10,11,12,13,14,15,16,17,18,19,20,21,22,23,24,25,26,27,28,29,30,31,32,33,34,35,36,37,38,39,40,41,42] (by kernel_rfl) (fun _ _ _ _ _ h=>h) He ?_;iterate 43
        first
        | (refine tkc (v:=?_) rfl (Or.inl ⟨by rfl,?_⟩) ?_;rotate_left;(intro wv Ha;rw [Hb] at Ha;(have q1:=cW Ha gbl b1;have q3:=cW Ha gbl b3;have q8:=cW Ha gla e8;have q4:=cW Ha ggl z1;have q5:=cW Ha ggl z3);go_simp;with_reducible rfl);(try simp only [Act.put,zp1,zp2,zp3]))
        | (refine tkc (v:=undef) rfl (Or.inr ⟨by rfl,rfl⟩) ?_;(try simp only [Act.put,zp1,zp2,zp3]))
       exact zL4
      have Vg:(k.normal == b.normal)=false:=by simpa using hE
      have Hf:=Hw.out;have Hl:Scu.better k b=false:=by unfold Scu.better;simp [hE,hA]
      rw [Hl,if_neg (show ¬ (false=true) by decide)] at Hf;have Hh:=mA (mB Hf (AtF.stay (m:=m) Kt.out));clear Hf Hl hE;obtain ⟨S,Hb⟩:∃ S:World->Prop,S=fun w'=>Below Wa.heap.size Wa w':=⟨_,rfl⟩
      have He:S Wa.drew:=by rw [Hb];exact (mG _ _).drew
      refine wp_region_held (S:=S) (by kernel_rfl) ?_;change wpAnyH _ _ _ _ _ _ _ _ Wa.drew;refine tkHs [0,1,2,3,4,5,6,7,8,9,10,11,12,13,14,15,16,17,18,19,20,21,22,23,24,25,26,27,28,29,30,31,32,33,34,35,36,37,38,39,40,41,42] (by kernel_rfl) (fun _ _ _ _ _ h=>h) He ?_;iterate 43
       first
       | (refine tkc (v:=?_) rfl (Or.inl ⟨by rfl,?_⟩) ?_;rotate_left;(intro wv Ha;rw [Hb] at Ha;(have q1:=cW Ha gbl b1;have q3:=cW Ha gbl b3;have q8:=cW Ha gla e8;have q4:=cW Ha ggl z1;have q5:=cW Ha ggl z3);go_simp;with_reducible rfl);(try simp only [Act.put,zp1,zp2,zp3]))
       | (refine tkc (v:=undef) rfl (Or.inr ⟨by rfl,rfl⟩) ?_;(try simp only [Act.put,zp1,zp2,zp3]))
      exact zL4
  have Vh:j=3:=by omega
  subst Vh;have Vp:¬ ((3:Nat):Int) < 3:=by omega
  obtain ⟨f1,f2,f3⟩:=HF.out.1;have Km:r.given.length=3:=H3.out.2.2.2.1;have Vi:(r.gives.zip r.given).length=3:=by rw [List.length_zip,H3.out.2.2.1,Km];rfl
  rw [List.take_of_length_le (by omega)] at f1;rw [List.take_of_length_le (by omega)] at f2 f3;have Vj:=H3.out.2.2.2.2.1;have Vk:=H3.out.2.2.2.2.2;have Kf:r.me.toNat < 3:=by omega
  obtain ⟨_,_,_,_,Hu⟩:=ones3' HJ.out.1.own.own.given H3.out.2.2.2.1;obtain ⟨c,hc⟩:∃ c,r.given[r.me.toNat]? = some c:=⟨_,mH (by rw [Km];exact Kf)⟩;have dg:wr.cell? ⟨gn,r.me.toNat,none⟩=some (.bool c):=by rw [Hu _ Kf,List.getElem?_map,hc];rfl
  have Ku:r.given.getD r.me.toNat false=c:=by rw [mI,hc];rfl
  obtain ⟨d0,d1,-,-,-,-,-,-,d8,d9⟩:=cz10 HJ.out.1.rb;have gl:=HJ.out.1.rb.lt;have gnl:=World.block_lt_of_cell? wr _ dg;have Kg:=mA (mB f1 (mB f2 f3));have Kv:=mA Ku;clear Hu hc f1 f2 f3 Ku Vi Km;go_wp2_with fail
  by_cases hm2:(m:Int) < 2
  ·have Hg:Scu.begun r=(r,[]):=by
    unfold Scu.begun;split
    ·rfl
    rw [if_pos (by have:=Kg.out.1;omega)]
   rw [HB.out] at Hg;have Hs:=mA Hg;clear Hg;obtain ⟨S,Hb⟩:∃ S:World->Prop,S=fun w'=>Below wr.heap.size wr w':=⟨_,rfl⟩
   have He:S wr.drew:=by rw [Hb];exact (mG _ _).drew
   refine wp_region_held (S:=S) (by kernel_rfl) ?_;change wpAnyH _ _ _ _ _ _ _ _ wr.drew;refine tkHs [0,1,2,3,4,5,6,7,8,9,10,11,12,13,14] (by kernel_rfl) (fun _ _ _ _ _ h=>h) He ?_;iterate 15
    first
    | (refine tkc (v:=?_) rfl (Or.inl ⟨by rfl,?_⟩) ?_;rotate_left;(intro wv Ha;rw [Hb] at Ha;skip;go_simp;with_reducible rfl);(try simp only [Act.put,zp1,zp2,zp3]))
    | (refine tkc (v:=undef) rfl (Or.inr ⟨by rfl,rfl⟩) ?_;(try simp only [Act.put,zp1,zp2,zp3]))
   exact zM4
  cases c with
  | false =>
    have Hg:Scu.begun r=(r,[]):=by unfold Scu.begun;rw [if_pos Kv.out]
    rw [HB.out] at Hg;have Hs:=mA Hg;clear Hg;obtain ⟨S,Hb⟩:∃ S:World->Prop,S=fun w'=>Below wr.heap.size wr w':=⟨_,rfl⟩
    have He:S wr.drew:=by rw [Hb];exact (mG _ _).drew
    refine wp_region_held (S:=S) (by kernel_rfl) ?_;change wpAnyH _ _ _ _ _ _ _ _ wr.drew;refine tkHs [0,1,2,3,4,5,6,7,8,9,10,11,12,13,14] (by kernel_rfl) (fun _ _ _ _ _ h=>h) He ?_;iterate 15
     first
     | (refine tkc (v:=?_) rfl (Or.inl ⟨by rfl,?_⟩) ?_;rotate_left;(intro wv Ha;rw [Hb] at Ha;(have q0:=cW Ha gl d0;have q9:=cW Ha gl d9;have qg:=cW Ha gnl dg);go_simp;with_reducible rfl);(try simp only [Act.put,zp1,zp2,zp3]))
     | (refine tkc (v:=undef) rfl (Or.inr ⟨by rfl,rfl⟩) ?_;(try simp only [Act.put,zp1,zp2,zp3]))
    exact zM4
  | true =>
    obtain ⟨com,Hp⟩:=mK ((if (b.log.length:Int) < co then (b.log.length:Int) else co));have Hg:Scu.begun r=(Scu.fresh { r with kept:=⟨r.kept.view,r.kept.view,true,b.log,com⟩ },Scu.leadOn (Scu.fresh { r with kept:=⟨r.kept.view,r.kept.view,true,b.log,com⟩ })):=by
     have Kf:com=min (Scu.maxCommit (r.gives.zip r.given)) b.log.length:=by rw [<- Hp,<- Kg.out.2.1];split <;> omega
     unfold Scu.begun;rw [if_neg (by rw [Kv.out];decide),if_neg (by have:=Kg.out.1;omega),Kf,Kg.out.2.2]
    rw [HB.out] at Hg;have Hs:=mA (Prod.mk.inj Hg);have Ka:=mA Hp;clear Hg Hp;obtain ⟨i,hi,Hy,Hr⟩:∃ i:Nat,i < 3/\at_=i/\r.gives[i]? = some b:=by
     rcases HF.out.2 with ⟨_,h0,_⟩ | h
     ·omega
     exact h
    subst Hy;obtain ⟨S,Hb⟩:∃ S:World->Prop,S=fun w'=>Below wr.heap.size wr w':=⟨_,rfl⟩
    have He:S wr.drew:=by rw [Hb];exact (mG _ _).drew
    refine wp_region_held (S:=S) (by kernel_rfl) ?_;change wpAnyH _ _ _ _ _ _ _ _ wr.drew;refine tkHs [0,1,2,3,4,5,6,7,8,9,10,11,12,13,14] (by kernel_rfl) (fun _ _ _ _ _ h=>h) He ?_;iterate 15
     first
     | (refine tkc (v:=?_) rfl (Or.inl ⟨by rfl,?_⟩) ?_;rotate_left;(intro wv Ha;rw [Hb] at Ha;(have q0:=cW Ha gl d0;have q9:=cW Ha gl d9;have qg:=cW Ha gnl dg);go_simp;with_reducible rfl);(try simp only [Act.put,zp1,zp2,zp3]))
     | (refine tkc (v:=undef) rfl (Or.inr ⟨by rfl,rfl⟩) ?_;(try simp only [Act.put,zp1,zp2,zp3]))
    refine tkz ?_;refine wpAnyH_done (by kernel_rfl) ?_ _;change Exit.then _ _ _ _ wr.drew;obtain ⟨Wb,Hd⟩:=mJ (wr.drew);rw [<- Hd];have Hc:=mA (show RWk Wb base g r lu hv wv (.slice (some ⟨gg,0,none⟩) 3 cg) (.slice (some ⟨gn,0,none⟩) 3 cn)/\BS base w Wb by rw [Hd];exact ⟨HJ.out.1.below (mG _ _).drew,HJ.out.2.drew⟩);clear Hd He Hb;obtain ⟨kss,Hj⟩:=Hc.out.1.own.giv;have Hn:i < r.gives.length:=by rw [H3.out.2.2.1];exact hi
    obtain ⟨gz,lb,-,-,-,z3,-,Ho⟩:=Hj.cells (i:=i) Hn;have Hz:r.gives[i]=b:=by have:=(mH Hn).symm.trans Hr;simpa using this
    rw [Hz] at Ho;obtain ⟨⟨Ab,cb,rfl,_,Kn⟩,hl,he⟩:=id Ho;have Vl:=hl;unfold R47 at Vl;have Kw:=mA (zAq (size:=1) (m:=b.log.length) (c:=cb) Kn (by simp) (fun e=>by subst e;have:=zBi Kn;simpa using this));have Kx:=mA (mB hl he);have Vf:(i:Int) < 3:=by omega
    obtain ⟨-,-,-,-,-,-,-,-,e8,-⟩:=cz10 Hc.out.1.rb;clear Hj gz Ho Hz Hr Hn Kn hl he d0 d1 d8 d9 dg;go_wp2_with (at_builtin;refine zAz _ rfl (.const (.slice none 0 0)) (.tmp 102) 39 rfl zBl Wb.heap.size _ 0 [] rfl (World.ownsRow_nil _ _ _ _) (.slice Ab b.log.length cb) b.log.length (b.log.map Value.string) rfl Kw.out (zBf _) (by unfold maxLen;omega) (by omega) (mC _) ?_)
    intro v4 x4 h4 Ky _;have Ko:Below Wb.heap.size Wb x4:=(mG Wb.heap.size Wb).grown Ky (mC _) (fun q hq=>by cases hq);have h4:x4.ownsRow Wb.heap.size 9 1 v4 b.log.length (b.log.map Value.string):=by simpa only [Nat.zero_add,List.nil_append] using h4
    obtain ⟨Au,cu,rfl,_,_,_,_⟩:=zAi h4;have Ht:=mA (show RWk x4 base g r lu hv wv (.slice (some ⟨gg,0,none⟩) 3 cg) (.slice (some ⟨gn,0,none⟩) 3 cn)/\BS base w x4/\OwnStrs x4 base (.slice Au b.log.length cu) b.log from
     ⟨Hc.out.1.below Ko,Hc.out.2.of Ko Hc.out.1.base_le,OwnStrs.base_ ⟨h4,Kx.out.1,Kx.out.2⟩ Hc.out.1.base_le⟩)
    clear h4 Ky Ko z3 e8 Kw Hc;go_upto_if 107 with fail
    go_cut [5] from 108 to 109 (fun cv wx=>cv=.int .i64 com/\wx=x4)
    case first =>
     by_cases hlc:(b.log.length:Int) < co
     ·have he:=Ka.out;rw [if_pos hlc] at he;exact zN4
     have he:=Ka.out;rw [if_neg hlc] at he;exact zN4
    case rest =>
    obtain ⟨rfl,Hx⟩:=hcut;rw [Hx];clear Hx;go_upto_region 19 with fail
    obtain ⟨-,x1,-,-,-,-,-,-,-,-⟩:=cz10 Ht.out.1.rb;obtain ⟨S,Hb⟩:∃ S:World->Prop,S=fun w'=>w'.cell? ⟨g,1,none⟩=some (.int .i64 r.kept.view):=⟨_,rfl⟩
    have He:S x4.drew:=by rw [Hb];exact x1
    refine wp_region_held (S:=S) (by kernel_rfl) ?_;change wpAnyH _ _ _ _ _ _ _ _ x4.drew;refine tkHs [0,1,2,3,4,5,6,7,8,9,10,11,12,13,14,15] (by kernel_rfl) (fun _ _ _ _ _ h=>h) He ?_;iterate 16
     refine tkc (v:=?_) rfl (Or.inl ⟨by rfl,?_⟩) ?_;rotate_left
     ·(intro wv Ha;rw [Hb] at Ha;go_simp;(try with_reducible rfl))
     (try simp only [Act.put,zp1,zp2,zp3])
    refine tkz ?_;refine alH 16 (by kernel_rfl) (wpOp_step (o:=_) rfl fun KB Kz=>?_);rw [if_pos (by rfl)];refine wp_store_mid 42 (.tmp 125) (.tmp 123) rfl g 1 #[.int .i64 r.kept.view,.int .i64 r.kept.view,.bool true,.slice Au b.log.length cu,.int .i64 com] rfl rfl (zKs (n:=10) (zFv Ht.out.1.rb) 1 5 (by decide)) (by kernel_rfl) zGd ?_;obtain ⟨Kb,Kh⟩:=(Ht.out.1.below (mG _ _).drew).set_kept (k:=⟨r.kept.view,r.kept.view,true,b.log,com⟩) (Ht.out.2.2.below (mG _ _).drew);obtain ⟨W5,Va⟩:=mJ (x4.drew.setCells g 1 [.int .i64 r.kept.view,.int .i64 r.kept.view,.bool true,.slice Au b.log.length cu,.int .i64 com]);change RWk (x4.drew.setCells g 1 [.int .i64 r.kept.view,.int .i64 r.kept.view,.bool true,.slice Au b.log.length cu,.int .i64 com]) _ _ _ _ _ _ _ _ at Kb;change Below base _ (x4.drew.setCells g 1 [.int .i64 r.kept.view,.int .i64 r.kept.view,.bool true,.slice Au b.log.length cu,.int .i64 com]) at Kh;change KB _ (x4.drew.setCells g 1 [.int .i64 r.kept.view,.int .i64 r.kept.view,.bool true,.slice Au b.log.length cu,.int .i64 com]);have Kp:Same [9,99] 0 x4.drew (x4.drew.setCells g 1 [.int .i64 r.kept.view,.int .i64 r.kept.view,.bool true,.slice Au b.log.length cu,.int .i64 com]):=Same.sets _ 1 _ _ (Ht.out.1.below (mG _ _).drew).rb (by decide);rw [<- Va] at Kb Kh Kp ⊢;have Vb:=mA (mB Kb (Ht.out.2.1.drew.trans ⟨Kh,Kp⟩));have Vc:S W5:=by rw [Hb];exact (cz2 Kb.rb).2
    refine Kz _ _ ⟨Vc,wpAnyH_done (by kernel_rfl) ?_ _⟩;refine puT ?_;change Exit.then _ _ _ _ W5;clear Va Kb Kh Kp He Vc Hb Kz x1;go_wp2_with fail
    refine (zOc Vb.out.1).mono ?_;rintro e w6 ⟨rfl,⟨lu6,Vq,wv6,gv6,nv6,Ki⟩,h6⟩;obtain ⟨E0,m0,y0,E1,y1,E2,y2,E3,y3,E4,y4,rfl,rfl,rfl,rfl,rfl⟩:=Ki.own.is.forms;obtain ⟨r0,r1,r2,r3,r4,r5,r6,r7,r8,r9⟩:=cz10 Ki.rb;have Kc:=mA (mB Ki (Vb.out.2.trans h6));clear Ki h6;go_wp2_with fail
    refine (zXm E0 m0 y0 E1 y1 E2 y2 E3 y3 E4 y4 (Scu.fresh { r with kept:=⟨r.kept.view,r.kept.view,true,b.log,com⟩ }) w6 0 (mE _) Kc.out.1.own.is.log ms Hs.out.2.symm).mono ?_;rintro e w7 ⟨⟨Ao,co7,css7,rfl,ho⟩,h7⟩;have Hi:=mA (mB (OwnMs.base_ ho Kc.out.1.base_le) (mB (Kc.out.1.below h7) (Kc.out.2.of h7 Kc.out.1.base_le)));clear ho h7;go_wp2
    go_ret
    rw [Hs.out.1];first | exact ⟨⟨_,rfl,_,Hi.out.1⟩,Hi.out.2.1.e,Hi.out.2.2⟩ | exact ⟨⟨_,_,rfl,Hi.out.1⟩,Hi.out.2.1.e,Hi.out.2.2⟩
structure HrS (w W:World) (base g gm:Nat) (r:Scu.Replica) (lu hv wv gv nv:Value) (m:Scu.Message) (A:Option Addr) (c:Nat) (ov:Value) (ms:List Scu.Message) (css:List (List Value)):Prop where
 rw_:RWk W base g r lu hv wv gv nv
 mb:Blk W gm 99 #[.int .i64 m.kind,.int .i64 m.from_,.int .i64 m.tq,.int .i64 m.view,.int .i64 m.normal,.int .i64 m.commit,.int .i64 m.n,.slice A m.log.length c]
 ml:LowStrs W base (.slice A m.log.length c) m.log
 out:OwnMs W base ov ms css
 low:Below base w W
section
variable {w W W':World} {base g gm:Nat} {r r':Scu.Replica} {lu hv wv gv nv lu' hv' wv' gv' nv':Value} {m:Scu.Message} {A:Option Addr} {c:Nat} {ov:Value} {ms:List Scu.Message} {css:List (List Value)}
theorem HrS.below (h:HrS w W base g gm r lu hv wv gv nv m A c ov ms css) (hb:Below W.heap.size W W'):HrS w W' base g gm r lu hv wv gv nv m A c ov ms css :=
 ⟨h.rw_.below hb,h.mb.same hb,h.ml.keep (hb.mono h.rw_.base_le),h.out.below hb,h.low.trans (hb.mono h.rw_.base_le)⟩
theorem HrS.upd (h:HrS w W base g gm r lu hv wv gv nv m A c ov ms css) (hr:RWk W' base g r' lu' hv' wv' gv' nv') (hs:Same [9,99] 0 W W') (hb:Below base W W'):HrS w W' base g gm r' lu' hv' wv' gv' nv' m A c ov ms css :=
 ⟨hr,zAc h.mb hs (by simp),h.ml.keep hb,h.out.same (hs.mono (by simp) (mC _)),h.low.trans hb⟩
theorem HrS.forms (h:HrS w W base g gm r lu hv wv gv nv m A c ov ms css) (h3:Rep3 r):∃ E0 m0 a c1 b c2 d c3 e c4 Ao co,lu=.slice E0 r.kept.log.length m0/\hv=.slice (some ⟨a,0,none⟩) 3 c1/\wv=.slice (some ⟨b,0,none⟩) 3 c2/\gv=.slice (some ⟨d,0,none⟩) 3 c3/\nv=.slice (some ⟨e,0,none⟩) 3 c4/\ov=.slice Ao ms.length co:=by
 obtain ⟨a,c1,rfl⟩:=ones3f h.rw_.own.own.have_ h3.1;obtain ⟨b,c2,rfl⟩:=ones3f h.rw_.own.own.wants h3.2.1;obtain ⟨e,c4,rfl⟩:=ones3f h.rw_.own.own.given h3.2.2.2.1;obtain ⟨kss,Ha⟩:=h.rw_.own.giv;obtain ⟨d,c3,rfl⟩:∃ gg cg,gv=.slice (some ⟨gg,0,none⟩) 3 cg:=by
  have hx:=Ha.row;rw [h3.2.2.1] at hx;exact zO4
 obtain ⟨⟨E0,m0,rfl,_,_⟩,_,_⟩:=h.rw_.own.own.log.is;obtain ⟨Ao,co,rfl⟩:=h.out.form;exact ⟨_,_,_,_,_,_,_,_,_,_,_,_,rfl,rfl,rfl,rfl,rfl,rfl⟩
end
theorem zUn {α:Type} {l:List α} {n:Nat} {x:α} (h:l[n]? = some x):l.set n x=l:=by
 obtain ⟨hn,rfl⟩:=List.getElem?_eq_some_iff.1 h;exact List.set_getElem_self hn
theorem zOd {w:World} {B:Nat} {A:Option Addr} {c:Nat} {xs:List Scu.Str} (h:IsStrs w B (.slice A xs.length c) xs) (n:Nat):Src1 (w.drewN n) 1 (.slice A xs.length c) xs.length (xs.map Value.string):=by
 obtain ⟨⟨A',c',e,_,Ha⟩,_,_⟩:=h;cases e
 exact zAq (Ha.drewN n) (by simp) (fun e=>by subst e;have:=zBi Ha;simpa using this)
theorem zOe {w W:World} {base g gm:Nat} {r:Scu.Replica} {lu hv wv gv nv:Value} {m:Scu.Message} {A:Option Addr} {c:Nat} {ov:Value} {ms:List Scu.Message} {css:List (List Value)} (h:HrS w W base g gm r lu hv wv gv nv m A c ov ms css) :
 Calls Tryz.prog 31 #[.pointer (some ⟨g,0,none⟩)] W fun e w'=>e=.returned (.tuple #[])/\∃ lu hv wv gv nv,HrS w w' base g gm (Scu.fresh r) lu hv wv gv nv m A c ov ms css:=by
 refine (zFd g _ _ _ _ _ _ _ _ _ _ W h.rw_.rb).mono ?_;rintro e w' ⟨rfl,⟨Hd,wv',gv',nv',Hb,_,_,_,_,hF⟩,Ha,Hc⟩;obtain ⟨o1,o2,o3,o4,o5⟩:=zLk hF h.rw_.base_le;exact ⟨rfl,_,_,_,_,_,h.upd ⟨Hb,⟨⟨h.rw_.own.own.log.same (Ha.mono (by simp) (mC _)),o1,o2,o4,o5⟩,_,o3⟩,h.rw_.lr⟩ (Ha.mono (by simp) (mC _)) (Hc base h.rw_.lr)⟩
def lead1 (r:Scu.Replica) (m:Scu.Message):Scu.Replica :=
 if r.kept.view < m.view\/r.kept.calm=false then Scu.fresh { r with kept:=⟨m.view,m.view,true,m.log,if (m.log.length:Int) < r.kept.commit then (m.log.length:Int) else r.kept.commit⟩ }
 else if r.kept.log.length < m.log.length then { r with kept:={ r.kept with log:=m.log } } else r
theorem zUo (r:Scu.Replica) (m:Scu.Message) (hc:m.commit<=m.log.length):Scu.hearLead r m =
 ({ lead1 r m with kept:={ (lead1 r m).kept with commit:=max (lead1 r m).kept.commit (min m.commit (lead1 r m).kept.log.length) } },
  [{ Scu.msg0 with kind:=2,from_:=r.me,tq:=m.from_,view:=(lead1 r m).kept.view,n:=(lead1 r m).kept.log.length }]):=by
 unfold Scu.hearLead lead1;by_cases h:r.kept.view < m.view\/r.kept.calm=false
 ·simp only [if_pos h,Scu.fresh]
  have e:max (max m.commit (min r.kept.commit (m.log.length:Int))) (min m.commit (m.log.length:Int))=max (if (m.log.length:Int) < r.kept.commit then (m.log.length:Int) else r.kept.commit) (min m.commit (m.log.length:Int)):=by
   split <;> omega
  rw [e]
 simp only [if_neg h]
theorem zPf (r:Scu.Replica) (m:Scu.Message):(lead1 r m).me=r.me:=by
 unfold lead1;split
 ·rfl
 split <;> rfl
theorem zJq {r:Scu.Replica} (m:Scu.Message) (h:Rep3 r):Rep3 (lead1 r m):=by
 unfold lead1;split
 ·exact ⟨rfl,rfl,rfl,rfl,h.2.2.2.2.1,h.2.2.2.2.2⟩
 split
 ·exact h
 exact h
end Go.Proofs.YtlngfbngnnepiaaGreat
