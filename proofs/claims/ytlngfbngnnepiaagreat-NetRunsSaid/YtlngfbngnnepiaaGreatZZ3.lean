/- Part 3: words and walks under the laws of the whole. -/
import Derived.Test.YtlngfbngnnepiaaGreatZZ2
set_option linter.unusedVariables false
set_option linter.unusedSimpArgs false
set_option maxHeartbeats 4000000
set_option maxRecDepth 100000
namespace Go.Proofs.YtlngfbngnnepiaaGreat
open Go.RowKit
theorem zEj (a b:ByteArray):(a.toList == b.toList)=decide (a=b):=by
 rw [ByteArray.toList_eq,ByteArray.toList_eq,Bool.eq_iff_iff,beq_iff_eq,decide_eq_true_eq];exact ⟨fun e=>ByteArray.ext (Array.toList_inj.1 e),fun e=>by rw [e]⟩
theorem zJb (v u:Value) (xs ys:List Scu.Str) (w:World) (B B':Nat) (hv:IsStrs w B v xs) (hu:IsStrs w B' u ys) :
 Calls Tryz.prog 19 #[v,u] w fun e w'=>e=.returned (.bool (decide (xs=ys)))/\∃ n,w'=w.drewN n:=by
 obtain ⟨⟨A,c,rfl,_,hr⟩,hl,_⟩:=hv;obtain ⟨⟨A',c',rfl,_,He⟩,Hf,_⟩:=hu;unfold R47 at hl Hf;by_cases he:xs.length=ys.length
 ·have Hg:((xs.length:Int) != (ys.length:Int))=false:=by simp [he]
  have HE:=mA he;clear he;go_enter Tryz.func19,Tryz.ntmps19
  go_wp2
  go_loopw [5] (fun i wr=>∃ k:Nat,k<=xs.length/\i=.int .i64 k/\Hid (xs.take k=ys.take k)/\∃ n,wr=w.drewN n) (fun i _=>xs.length - (intOf i).toNat)
  case atStart=>exact ⟨0,mE _,rfl,rfl,0,rfl⟩
  case round =>
   obtain ⟨k,hk,rfl,ht,n,rfl⟩:=hrel;by_cases Hb:k < xs.length
   ·have Hc:(k:Int) < (xs.length:Int):=by omega
    have hy:k < ys.length:=by have:=HE.out;omega
    have Hk:(k:Int) < (ys.length:Int):=by omega
    obtain ⟨g,o,rfl,_,hc⟩:=zBz hr Hb;obtain ⟨g',o',rfl,_,Hl⟩:=zBz He hy;by_cases hx:xs[k]=ys[k]
    ·have hb:(xs[k].toList == ys[k].toList)=true:=by rw [zEj];simp [hx]
     have HX:=mA hx;clear hx;go_wp2
     go_quiet (fail)
     go_wp2
     exact ⟨⟨k+1,Hb,by go_num,zFk ht.out Hb hy HX.out,_,rfl⟩,by simp only [intOf];omega⟩
    have hb:(xs[k].toList == ys[k].toList)=false:=by rw [zEj];simp [hx]
    have Ha:decide (xs=ys)=false:=by
     rw [decide_eq_false_iff_not];intro e;subst e;exact hx rfl
    have Hh:=mA Ha;clear Ha;go_wp2
    go_quiet (fail)
    go_wp2
    go_ret
    exact ⟨zAb (zBa Hh.out.symm),_,World.drewN_drewN _ _ _⟩
   have Hi:k=xs.length:=by omega
   have Hc:(xs.length:Int)<=(k:Int):=by omega
   have Hd:decide (xs=ys)=true:=by
    rw [decide_eq_true_eq];have h1:=ht.out;rw [List.take_of_length_le (by omega),List.take_of_length_le (by have:=HE.out;omega)] at h1;exact h1
   have Hj:=mA Hd;clear Hi Hd;go_wp2
   go_ret
   exact ⟨zAb (zBa Hj.out.symm),_,rfl⟩
 have Hg:((xs.length:Int) != (ys.length:Int))=true:=by
  rw [bne_iff_ne];omega
 have Ha:decide (xs=ys)=false:=by
  rw [decide_eq_false_iff_not];intro e;exact he (by rw [e])
 rw [Ha];clear he;go_enter Tryz.func19,Tryz.ntmps19
 go_wp2
 go_ret
 exact ⟨rfl,0,rfl⟩
structure IsRows (w:World) (B:Nat) (v:Value) (xss:List (List Scu.Str)):Prop where
 ex:∃ A c vs,v=.slice A xss.length c/\xss.length<=c/\Rd w B 39 A vs/\vs.length=xss.length/\∀ (j:Nat) (u:Value) (x:List Scu.Str),vs[j]? = some u->xss[j]? = some x->IsStrs w B u x
 len:xss.length*24<=R47
section
variable {w w':World} {B B':Nat} {v:Value} {xss:List (List Scu.Str)}
theorem IsRows.keep (h:IsRows w B v xss) (hs:w.heap.size<=w'.heap.size) (hk:∀ g,g < w.heap.size->(g < B\/∃ C fz t,(t=9\/t=39)/\w.heap[g]? = some (.cells C t fz))->w'.heap[g]? = w.heap[g]?):IsRows w' B v xss :=
 ⟨let ⟨A,c,vs,h1,h2,h3,h4,h5⟩:=h.ex
  ⟨A,c,vs,h1,h2,h3.keep hs (fun g hg hh=>hk g hg (hh.imp id fun ⟨C,fz,e⟩=>⟨C,fz,_,.inr rfl,e⟩)),h4,fun j u x a b=>(h5 j u x a b).keep hs (fun g hg hh=>hk g hg (hh.imp id fun ⟨C,fz,e⟩=>⟨C,fz,_,.inl rfl,e⟩))⟩,h.len⟩
theorem IsRows.below (h:IsRows w B v xss) (hb:Below w.heap.size w w'):IsRows w' B v xss:=h.keep hb.size fun g hg _=>hb.block g hg
theorem IsRows.drewN (h:IsRows w B v xss) (n:Nat):IsRows (w.drewN n) B v xss:=h.keep (mC _) fun _ _ _=>rfl
theorem IsRows.alloc (h:IsRows w B v xss) (o:Obj):IsRows (w.alloc o) B v xss:=h.keep (by simp) fun g hg _=>Below.heap_alloc w o g hg
theorem IsRows.mono (h:IsRows w B v xss) (hB:B<=B'):IsRows w B' v xss :=
 ⟨let ⟨A,c,vs,h1,h2,h3,h4,h5⟩:=h.ex;⟨A,c,vs,h1,h2,h3.mono hB,h4,fun j u x a b=>(h5 j u x a b).mono hB⟩,h.len⟩
end
theorem zGw {w:World} {B:Nat} {A:Option Addr} {vs:List Value} {xss:List (List Scu.Str)} {k:Nat} (h:Rd w B 39 A vs) (hl:vs.length=xss.length)
 (h5:∀ (j:Nat) (u:Value) (x:List Scu.Str),vs[j]? = some u->xss[j]? = some x->IsStrs w B u x) (hk:k < xss.length) :
 ∃ g o u,A=some ⟨g,o,none⟩/\g < w.heap.size/\w.cell? ⟨g,o+k,none⟩=some u/\IsStrs w B u xss[k]:=by
 have Ha:k < vs.length:=by omega
 obtain ⟨g,o,h1,h2,h3⟩:=h.get (mH Ha);exact ⟨g,o,_,h1,h2,h3,h5 k _ _ (mH Ha) (mH hk)⟩
structure IsVolume (w:World) (B:Nat) (nv sv:Value) (x:Scu.Volume):Prop where
 now:IsStrs w B nv x.now
 snaps:IsRows w B sv x.snaps
theorem IsVolume.below {w w':World} {B:Nat} {nv sv:Value} {x:Scu.Volume} (h:IsVolume w B nv sv x) (hb:Below w.heap.size w w'):IsVolume w' B nv sv x:=⟨h.now.below hb,h.snaps.below hb⟩
theorem IsVolume.drewN {w:World} {B:Nat} {nv sv:Value} {x:Scu.Volume} (h:IsVolume w B nv sv x) (n:Nat):IsVolume (w.drewN n) B nv sv x:=⟨h.now.drewN n,h.snaps.drewN n⟩
theorem IsVolume.alloc {w:World} {B:Nat} {nv sv:Value} {x:Scu.Volume} (h:IsVolume w B nv sv x) (o:Obj):IsVolume (w.alloc o) B nv sv x:=⟨h.now.alloc o,h.snaps.alloc o⟩
open Go.RowKit Go.ChangeShapes Go.WideShapes Go.ChangeAt
def opC (o:Scu.Op):List Value:=[.int .i64 o.kind,.int .i64 o.at_,.int .i64 o.snap,.string o.data]
def vRequest (r:Scu.Request):Value:=.agg #[.int .i64 r.client,.int .i64 r.num,.int .i64 r.op.kind,.int .i64 r.op.at_,.int .i64 r.op.snap,.string r.op.data]
theorem zMb:Tryz.prog.cellsOf 3=1:=by kernel_rfl
theorem zMc:Tryz.prog.cellsOf 9=1:=by kernel_rfl
theorem zOm:Tryz.prog.cellsOf 51=4:=by kernel_rfl
section
variable {H:Type} {enc:TypeId × Value->H} {w:World} {base:Nat} {spare:Nat->Bool} {held:Bool} {n:Nat} {cs:List Value} {y:Option (DataW H × List MemPlace)}
theorem zEk {α:Type} {xs:List α} {m:Nat} (h:xs.length=m) {i:Nat} (hi:i < m):∃ z,xs[i]? = some z:=⟨_,mH (by omega)⟩
theorem zWn {x:DataW H × List MemPlace} (h:DataW.trod enc Tryz.prog w base spare held n 51 cs=some x):∃ o:Scu.Op,cs=opC o/\o.data.size<=maxLen:=by
 obtain ⟨xs,m,_,_,hl,Ha,hf⟩:=DataW.trod_struct Tryz.underlying51 h;rw [zOm] at hl;match cs,hl with
 | [c0,c1,c2,c3],_ =>
   obtain ⟨z0,e0⟩:=zEk Ha (i:=0) (by simp);obtain ⟨z1,e1⟩:=zEk Ha (i:=1) (by simp);obtain ⟨z2,e2⟩:=zEk Ha (i:=2) (by simp);obtain ⟨z3,e3⟩:=zEk Ha (i:=3) (by simp);obtain ⟨n0,h0,_⟩:=DataW.trod_int Tryz.underlying3 ((hf 0 _ rfl).trans e0);obtain ⟨n1,h1,_⟩:=DataW.trod_int Tryz.underlying3 ((hf 1 _ rfl).trans e1);obtain ⟨n2,h2,_⟩:=DataW.trod_int Tryz.underlying3 ((hf 2 _ rfl).trans e2);obtain ⟨s,h3,_,hs⟩:=DataW.trod_string Tryz.underlying9 ((hf 3 _ rfl).trans e3);simp [zMb,zMc] at h0 h1 h2 h3
   subst h0 h1 h2 h3;exact ⟨⟨n0,n1,n2,s⟩,rfl,hs⟩
end
section
variable {H:Type} {enc:TypeId × Value->H} {w:World} {base:Nat} {spare:Nat->Bool} {held:Bool} {d:DataW H} {p:List MemPlace} {v:Value} {b0:Nat}
end
open Go.RowKit
theorem zIl {α:Type} (f:α->List Value) (m:Nat) (hf:∀ x,(f x).length=m):∀ (l:List α) (k j:Nat) (hk:k < l.length),j < m->(l.flatMap f)[k*m+j]? = (f l[k])[j]?
 | x :: l,0,j,_,hj=>by
   simp only [List.flatMap_cons,Nat.zero_mul,Nat.zero_add,List.getElem_cons_zero]
   rw [List.getElem?_append_left (by rw [hf];exact hj)]
 | x :: l,k+1,j,hk,hj=>by
   simp only [List.flatMap_cons,List.getElem_cons_succ]
   rw [List.getElem?_append_right (by rw [hf,Nat.succ_mul];omega),hf,show (k+1)*m+j - m=k*m+j from by rw [Nat.succ_mul];omega];exact zIl f m hf l k j (by simpa using hk) hj
theorem zOn {α:Type} (f:α->List Value) (m:Nat) (hf:∀ x,(f x).length=m) (l:List α):(l.flatMap f).length=l.length*m:=by
 induction l with
 | nil=>simp
 | cons x l ih=>simp only [List.flatMap_cons,List.length_append,hf,ih,List.length_cons,Nat.succ_mul];omega
def lastC (l:Scu.Last):List Value:=[.int .i64 l.num,.int .i64 l.reply.code,.int .i64 l.reply.n,.string l.reply.data]
structure IsLasts (w:World) (B:Nat) (v:Value) (ls:List Scu.Last):Prop where
 ex:∃ A c,v=.slice A ls.length c/\ls.length<=c/\Rd w B 95 A (ls.flatMap lastC)
 len:ls.length*40<=R47
section
variable {w w':World} {B B':Nat} {v:Value} {ls:List Scu.Last}
theorem IsLasts.keep (h:IsLasts w B v ls) (hs:w.heap.size<=w'.heap.size) (hk:∀ g,g < w.heap.size->(g < B\/∃ C fz,w.heap[g]? = some (.cells C 95 fz))->w'.heap[g]? = w.heap[g]?):IsLasts w' B v ls :=
 ⟨let ⟨A,c,h1,h2,h3⟩:=h.ex;⟨A,c,h1,h2,h3.keep hs hk⟩,h.len⟩
theorem IsLasts.below (h:IsLasts w B v ls) (hb:Below w.heap.size w w'):IsLasts w' B v ls:=h.keep hb.size fun g hg _=>hb.block g hg
theorem IsLasts.drewN (h:IsLasts w B v ls) (n:Nat):IsLasts (w.drewN n) B v ls:=⟨h.ex,h.len⟩
theorem IsLasts.alloc (h:IsLasts w B v ls) (o:Obj):IsLasts (w.alloc o) B v ls:=h.keep (by simp) fun g hg _=>Below.heap_alloc w o g hg
theorem IsLasts.mono (h:IsLasts w B v ls) (hB:B<=B'):IsLasts w B' v ls:=⟨let ⟨A,c,h1,h2,h3⟩:=h.ex;⟨A,c,h1,h2,h3.mono hB⟩,h.len⟩
end
theorem zGa {w:World} {B:Nat} {A:Option Addr} {ls:List Scu.Last} {k:Nat} (h:Rd w B 95 A (ls.flatMap lastC)) (hk:k < ls.length) :
 ∃ g o,A=some ⟨g,o,none⟩/\g < w.heap.size/\w.cell? ⟨g,o+k*4,none⟩=some (.int .i64 ls[k].num)/\w.cell? ⟨g,o+k*4+1,none⟩=some (.int .i64 ls[k].reply.code) /\
  w.cell? ⟨g,o+k*4+2,none⟩=some (.int .i64 ls[k].reply.n)/\w.cell? ⟨g,o+k*4+3,none⟩=some (.string ls[k].reply.data):=by
 have e:∀ j,j < 4->(ls.flatMap lastC)[k*4+j]? = (lastC ls[k])[j]?:=fun j hj=>zIl lastC 4 (fun _=>rfl) ls k j hk hj
 obtain ⟨g,o,h1,h2,h3⟩:=h.get (k:=k*4) (u:=.int .i64 ls[k].num) (e 0 (by omega));obtain ⟨g',o',Hb,_,h4⟩:=h.get (k:=k*4+1) (u:=.int .i64 ls[k].reply.code) (e 1 (by omega));obtain ⟨g'',o'',Ha,_,h5⟩:=h.get (k:=k*4+2) (u:=.int .i64 ls[k].reply.n) (e 2 (by omega));obtain ⟨g3,o3,Hc,_,h6⟩:=h.get (k:=k*4+3) (u:=.string ls[k].reply.data) (e 3 (by omega));rw [h1] at Hb Ha Hc;simp only [Option.some.injEq,Addr.mk.injEq,and_true] at Hb Ha Hc
 obtain ⟨rfl,rfl⟩:=Hb;obtain ⟨rfl,rfl⟩:=Ha;obtain ⟨rfl,rfl⟩:=Hc;exact ⟨g,o,h1,h2,h3,by rw [Nat.add_assoc];exact h4,by rw [Nat.add_assoc];exact h5,by rw [Nat.add_assoc];exact h6⟩
theorem IsVolume.keep {w w':World} {B:Nat} {nv sv:Value} {x:Scu.Volume} (h:IsVolume w B nv sv x) (hs:w.heap.size<=w'.heap.size)
 (hk:∀ g,g < w.heap.size->(g < B\/∃ C fz t,(t=9\/t=39)/\w.heap[g]? = some (.cells C t fz))->w'.heap[g]? = w.heap[g]?):IsVolume w' B nv sv x :=
 ⟨h.now.keep hs fun g hg hh=>hk g hg (hh.imp id fun ⟨C,fz,e⟩=>⟨C,fz,_,.inl rfl,e⟩),h.snaps.keep hs hk⟩
theorem IsVolume.set_ {w:World} {B:Nat} {nv sv:Value} {x:Scu.Volume} (h:IsVolume w B nv sv x) {p:Addr} {t':TypeId} {cs:Array Value} (hp:Blk w p.block t' cs) (hB:B<=p.block)
 (h1:t'≠9) (h2:t'≠39) (u:Value):IsVolume (w.setCell p u) B nv sv x :=
 h.keep (by simp [World.setCell]) fun g _ hh=>Below.heap_setCell w p u g (by
  rintro rfl;rcases hh with hh | ⟨C,fz,t,ht,hh⟩
  ·omega
  unfold Blk at hp;rw [hp] at hh;cases hh
  rcases ht with ht | ht
  ·exact h1 ht
  exact h2 ht)
structure IsState (w:World) (B:Nat) (nv sv lv:Value) (x:Scu.State):Prop where
 vol:IsVolume w B nv sv x.volume
 lasts:IsLasts w B lv x.lasts
theorem zTd {w:World} {g:Nat} {xs:List Scu.Str} (h:Blk w g 9 (xs.map Value.string).toArray) (h1:xs.length*16<=R47) (h2:∀ s ∈ xs,s.size<=R47) :
 IsStrs w 0 (.slice (some ⟨g,0,none⟩) xs.length xs.length) xs :=
 ⟨⟨_,_,rfl,mC _,.inr ⟨g,0,rfl,h.lt,.inr ⟨_,_,h⟩,fun j u hj=>by
   rw [h.cell];simpa using hj⟩⟩,h1,h2⟩
theorem zRc {w:World} {g:Nat} {ls:List Scu.Last} (h:Blk w g 95 (ls.flatMap lastC).toArray) (h1:ls.length*40<=R47) :
 IsLasts w 0 (.slice (some ⟨g,0,none⟩) ls.length ls.length) ls :=
 ⟨⟨_,_,rfl,mC _,.inr ⟨g,0,rfl,h.lt,.inr ⟨_,_,h⟩,fun j u hj=>by
   rw [h.cell];simpa using hj⟩⟩,h1⟩
theorem make6 (w:World):(Instr.makeSlice 39 (.int .i64 6) (.int .i64 6)).run Tryz.prog w =
 .ok (.slice (some ⟨w.heap.size,0,none⟩) 6 6) (w.alloc (.cells #[.string ⟨#[]⟩,.string ⟨#[]⟩,.string ⟨#[]⟩,.string ⟨#[]⟩,.string ⟨#[]⟩,.string ⟨#[]⟩] 9)):=by kernel_rfl
theorem make4 (w:World):(Instr.makeSlice 89 (.int .i64 4) (.int .i64 4)).run Tryz.prog w =
 .ok (.slice (some ⟨w.heap.size,0,none⟩) 4 4) (w.alloc (.cells #[.int .i64 0,.int .i64 0,.int .i64 0,.string ⟨#[]⟩,.int .i64 0,.int .i64 0,.int .i64 0,.string ⟨#[]⟩,.int .i64 0,.int .i64 0,.int .i64 0,.string ⟨#[]⟩,.int .i64 0,.int .i64 0,.int .i64 0,.string ⟨#[]⟩] 95)):=by kernel_rfl
theorem zTe {w:World} {B:Nat} : IsRows w B (.slice none 0 0) [] :=
 ⟨⟨none,0,[],rfl,mC _,Rd.nil,rfl,fun j u x h=>by simp at h⟩,by simp [R47]⟩
theorem zHo {w:World} {g:Nat} (h:Blk w g 9 #[.string ⟨#[]⟩,.string ⟨#[]⟩,.string ⟨#[]⟩,.string ⟨#[]⟩,.string ⟨#[]⟩,.string ⟨#[]⟩]) :
 IsVolume w 0 (.slice (some ⟨g,0,none⟩) 6 6) (.slice none 0 0) Scu.volNew :=
 ⟨zTd (xs:=List.replicate 6 Scu.str0) h (by simp [R47]) (fun s hs=>by rw [List.eq_of_mem_replicate hs];exact mE _),zTe⟩
theorem zDw {w:World} {g:Nat} (h:Blk w g 95 #[.int .i64 0,.int .i64 0,.int .i64 0,.string ⟨#[]⟩,.int .i64 0,.int .i64 0,.int .i64 0,.string ⟨#[]⟩,.int .i64 0,.int .i64 0,.int .i64 0,.string ⟨#[]⟩,.int .i64 0,.int .i64 0,.int .i64 0,.string ⟨#[]⟩]) :
 IsLasts w 0 (.slice (some ⟨g,0,none⟩) 4 4) (List.replicate 4 Scu.last0) :=
 zRc (ls:=List.replicate 4 Scu.last0) h (by simp [R47])
theorem IsStrs.form {w:World} {B:Nat} {v:Value} {xs:List Scu.Str} (h:IsStrs w B v xs):∃ A n c,v=.slice A n c:=by
 obtain ⟨A,c,e,_⟩:=h.ex;exact ⟨A,_,c,e⟩
theorem IsRows.form {w:World} {B:Nat} {v:Value} {xs:List (List Scu.Str)} (h:IsRows w B v xs):∃ A n c,v=.slice A n c:=by
 obtain ⟨A,c,vs,e,_⟩:=h.ex;exact ⟨A,_,c,e⟩
theorem IsLasts.form {w:World} {B:Nat} {v:Value} {xs:List Scu.Last} (h:IsLasts w B v xs):∃ A n c,v=.slice A n c:=by
 obtain ⟨A,c,e,_⟩:=h.ex;exact ⟨A,_,c,e⟩
theorem zTf (w:World) :
 Calls Tryz.prog 110 #[] w fun e w'=>(∃ nv sv,e=.returned (.agg #[nv,sv])/\IsVolume w' 0 nv sv Scu.volNew)/\Below w.heap.size w w':=by
 have hm:=make6;go_enter Tryz.func110,Tryz.ntmps110
 go_wp2
 refine bodyPost_ret (v:=.agg #[.slice (some ⟨w.heap.size+1,0,none⟩) 6 6,.slice none 0 0]) (by simp [results,Tryz.results110,go_sem]) rfl ?_;refine ⟨⟨_,_,rfl,zHo ?_⟩,((mG _ _).alloc (mC _) _).alloc (by simp) _⟩;exact Blk.new' (by simp)
theorem zRd (w:World) :
 Calls Tryz.prog 66 #[] w fun e w'=>(∃ nv sv lv,e=.returned (.agg #[nv,sv,lv])/\IsState w' 0 nv sv lv Scu.stateNew)/\Below w.heap.size w w':=by
 have hm:=make6;have Ha:=make4;go_enter Tryz.func66,Tryz.ntmps66
 go_wp2
 go_region
 ·go_wp2
  refine bodyPost_ret (v:=.agg #[.slice (some ⟨w.heap.size+1,0,none⟩) 6 6,.slice none 0 0,.slice (some ⟨w.heap.size+1+1,0,none⟩) 4 4]) (by simp [results,Tryz.results66,go_sem]) rfl ?_;refine ⟨⟨_,_,_,rfl,zHo ?_,zDw ?_⟩,((((mG _ _).alloc (mC _) _).alloc (by simp) _).alloc (by simp;omega) _).drew⟩
  ·exact Blk.drew (Blk.alloc (Blk.new' (by simp)) _)
  exact Blk.drew (Blk.new' (by simp))
 go_wp2
 refine bodyPost_ret (v:=.agg #[.slice (some ⟨w.heap.size+1+1,0,none⟩) 6 6,.slice none 0 0,.slice (some ⟨w.heap.size+1,0,none⟩) 4 4]) (by simp [results,Tryz.results66,go_sem]) rfl ?_;refine ⟨⟨_,_,_,rfl,zHo ?_,zDw ?_⟩,((((mG _ _).alloc (mC _) _).alloc (by simp) _).alloc (by simp;omega) _).drew⟩
 ·exact Blk.drew (Blk.new' (by simp))
 exact Blk.drew (Blk.alloc (Blk.new' (by simp)) _)
theorem zMd (w:World) :
 Calls Tryz.prog 101 #[] w fun e w'=>(∃ nv sv lv,e=.returned (.agg #[nv,sv,lv])/\IsState w' 0 nv sv lv Scu.stateNew)/\Below w.heap.size w w':=by
 have Hg:=make4;go_enter Tryz.func101,Tryz.ntmps101
 go_wp2
 go_region_with (go_at_call 110;refine (zTf _).mono ?_;rintro e w1 ⟨⟨nv,sv,rfl,hv⟩,h1⟩;obtain ⟨A,n,c,rfl⟩:=hv.now.form;obtain ⟨A',n',c',rfl⟩:=hv.snaps.form;obtain ⟨hc,hf⟩:=bcell h1;have He:w.heap.size < w1.heap.size:=(by have:=h1.size;simp at this;omega))
 ·have hb:=((Blk.new w 91 #[.slice none 0 0,.slice none 0 0,.slice none 0 0]).drew).same h1;have Hb:=hb.set_ 0 (.slice A n c);have Hc:=Hb.set_ 1 (.slice A' n' c');have Ha:=(Hc.set_ 2 (.slice (some ⟨w1.heap.size,0,none⟩) 4 4)).alloc (.cells #[.int .i64 0,.int .i64 0,.int .i64 0,.string ⟨#[]⟩,.int .i64 0,.int .i64 0,.int .i64 0,.string ⟨#[]⟩,.int .i64 0,.int .i64 0,.int .i64 0,.string ⟨#[]⟩,.int .i64 0,.int .i64 0,.int .i64 0,.string ⟨#[]⟩] 95);have u0:=Ha.cell 0;have u1:=Ha.cell 1;have u2:=Ha.cell 2;simp at u0 u1 u2
  have HV:IsVolume _ 0 _ _ Scu.volNew:=((hv.set_ (p:=⟨w.heap.size,0,none⟩) hb (mE _) (by decide) (by decide) (.slice A n c)).set_ (p:=⟨w.heap.size,1,none⟩) Hb (mE _) (by decide) (by decide) (.slice A' n' c')).set_ (p:=⟨w.heap.size,2,none⟩) Hc (mE _) (by decide) (by decide) (.slice (some ⟨w1.heap.size,0,none⟩) 4 4);have HH:=mA (mB hb He);clear hb Hb Hc Ha;go_wp2
  refine bodyPost_ret (v:=.agg #[.slice A n c,.slice A' n' c',.slice (some ⟨w1.heap.size,0,none⟩) 4 4]) (by simp [results,Tryz.results101,go_sem,u0,u1,u2]) rfl ?_;have hB:Below w.heap.size w w1:=((mG _ _).alloc (mC _) _).drew.trans (h1.mono (by simp));have Hd:=((hB.setCell (p:=⟨w.heap.size,0,none⟩) (mC _) (.slice A n c)).setCell (p:=⟨w.heap.size,1,none⟩) (mC _) (.slice A' n' c')).setCell (p:=⟨w.heap.size,2,none⟩) (mC _) (.slice (some ⟨w1.heap.size,0,none⟩) 4 4);exact ⟨⟨_,_,_,rfl,HV.alloc _,zDw (Blk.new' (by simp))⟩,Hd.alloc Hd.size _⟩
 have hb:=(((Blk.new w 91 #[.slice none 0 0,.slice none 0 0,.slice none 0 0]).alloc (.cells #[.int .i64 0,.int .i64 0,.int .i64 0,.string ⟨#[]⟩,.int .i64 0,.int .i64 0,.int .i64 0,.string ⟨#[]⟩,.int .i64 0,.int .i64 0,.int .i64 0,.string ⟨#[]⟩,.int .i64 0,.int .i64 0,.int .i64 0,.string ⟨#[]⟩] 95)).drew).same h1;have Hb:=hb.set_ 0 (.slice A n c);have Hc:=Hb.set_ 1 (.slice A' n' c');have Ha:=Hc.set_ 2 (.slice (some ⟨w.heap.size+1,0,none⟩) 4 4);have u0:=Ha.cell 0;have u1:=Ha.cell 1;have u2:=Ha.cell 2;simp at u0 u1 u2
 have HV:IsVolume _ 0 _ _ Scu.volNew:=((hv.set_ (p:=⟨w.heap.size,0,none⟩) hb (mE _) (by decide) (by decide) (.slice A n c)).set_ (p:=⟨w.heap.size,1,none⟩) Hb (mE _) (by decide) (by decide) (.slice A' n' c')).set_ (p:=⟨w.heap.size,2,none⟩) Hc (mE _) (by decide) (by decide) (.slice (some ⟨w.heap.size+1,0,none⟩) 4 4);have Hf:Blk w1 (w.heap.size+1) 95 #[.int .i64 0,.int .i64 0,.int .i64 0,.string ⟨#[]⟩,.int .i64 0,.int .i64 0,.int .i64 0,.string ⟨#[]⟩,.int .i64 0,.int .i64 0,.int .i64 0,.string ⟨#[]⟩,.int .i64 0,.int .i64 0,.int .i64 0,.string ⟨#[]⟩] :=
  (Blk.drew (Blk.new' (by simp))).same h1
 have HL:IsLasts _ 0 _ (List.replicate 4 Scu.last0):=zDw (((Hf.far (p:=⟨w.heap.size,0,none⟩) (by simp) (.slice A n c)).far (p:=⟨w.heap.size,1,none⟩) (by simp) (.slice A' n' c')).far (p:=⟨w.heap.size,2,none⟩) (by simp) (.slice (some ⟨w.heap.size+1,0,none⟩) 4 4));have HH:=mA (mB hb He);clear hb Hb Hc Ha Hf;go_wp2
 refine bodyPost_ret (v:=.agg #[.slice A n c,.slice A' n' c',.slice (some ⟨w.heap.size+1,0,none⟩) 4 4]) (by simp [results,Tryz.results101,go_sem,u0,u1,u2]) rfl ?_;have hB:Below w.heap.size w w1:=(((mG _ _).alloc (mC _) _).alloc (by simp) _).drew.trans (h1.mono (by simp;omega));have Hd:=((hB.setCell (p:=⟨w.heap.size,0,none⟩) (mC _) (.slice A n c)).setCell (p:=⟨w.heap.size,1,none⟩) (mC _) (.slice A' n' c')).setCell (p:=⟨w.heap.size,2,none⟩) (mC _) (.slice (some ⟨w.heap.size+1,0,none⟩) 4 4);exact ⟨⟨_,_,_,rfl,HV,HL⟩,Hd⟩
open Go.RowKit
def IdxPost (b:Bool) (e:Ending):Prop:=∃ r:Int,e=.returned (.int .i64 r)/\decide (0<=r)=b
theorem zDx {α:Type} (p:α->Bool) (xs:List α) (k:Nat) (h:k < xs.length):(xs.take (k+1)).any p=((xs.take k).any p || p xs[k]):=by
 rw [List.take_succ_eq_append_getElem h,List.any_append];simp
theorem zCt {α:Type} (p:α->Bool) (xs:List α) (k:Nat) (h:k < xs.length) (hp:p xs[k]=true):xs.any p=true:=List.any_eq_true.2 ⟨_,List.getElem_mem h,hp⟩
theorem zDy {α:Type} (p:α->Bool) (xs:List α) (k:Nat) (h:xs.length<=k) (hp:(xs.take k).any p=false):xs.any p=false:=by rwa [List.take_of_length_le h] at hp
theorem zPr (s:ByteArray) (w:World) (hs:s.size<=R47) :
 Calls Tryz.prog 124 #[.string s] w fun e w'=>e=.returned (.bool (decide (8 < s.size)))/\w=w':=by
 unfold R47 at hs;have e:decide (8 < s.size)=decide ((8:Int) < (s.size:Int)):=by rw [Bool.eq_iff_iff];simp;omega
 rw [e];clear e;go_enter Tryz.func124,Tryz.ntmps124
 go_wp2
 go_ret
 exact ⟨rfl,rfl⟩
theorem zI1 {P:Prop} (h:P:=by
 go_wp2
 go_round
 case rel=>exact ⟨k+1,Ha,by go_num,HX⟩
 case measure=>simp [intOf];omega):P:=h
theorem zNj (p:Scu.Str->Bool) (hp:∀ (s:ByteArray) (w:World),s.size<=R47->Calls Tryz.prog 124 #[.string s] w fun e w'=>e=.returned (.bool (p s))/\w=w') (v:Value) (xs:List Scu.Str) (w:World) (B:Nat) (hv:IsStrs w B v xs) :
 Calls Tryz.prog 126 #[v,.func (.func 124) #[] #[]] w fun e w'=>IdxPost (xs.any p) e/\w=w':=by
 obtain ⟨⟨A,c,rfl,_,hr⟩,hl,he⟩:=hv;unfold R47 at hl;have HP:=mA hp;have HE:=mA he;clear hp he;go_enter Tryz.func126,Tryz.ntmps126
 go_wp2
 go_loop [8] (fun i=>∃ k:Nat,k<=xs.length/\i=.int .i64 k/\Hid ((xs.take k).any p=false)) (fun i=>xs.length - (intOf i).toNat)
 case atStart=>exact ⟨0,mE _,rfl,by simp [Hid]⟩
 case round =>
  obtain ⟨k,hk,rfl,ht⟩:=hrel;by_cases Ha:k < xs.length
  ·have Hb:(k:Int) < (xs.length:Int):=by omega
   obtain ⟨g,o,rfl,_,hc⟩:=zBz hr Ha;by_cases hx:p xs[k]=true
   ·have HX:=mA (zCt p xs k Ha hx);go_wp2_with fail
    refine (HP.out _ _ (HE.out _ (List.getElem_mem Ha))).mono ?_;rintro e w1 ⟨rfl,rfl⟩;go_wp2
    go_ret
    exact ⟨⟨_,rfl,by rw [HX.out];simp⟩,rfl⟩
   have Hc:p xs[k]=false:=by simpa using hx
   have HX:=mA (show (xs.take (k+1)).any p=false by rw [zDx p xs k Ha,ht.out,Hc];rfl);clear hx;go_wp2_with fail
   refine (HP.out _ _ (HE.out _ (List.getElem_mem Ha))).mono ?_;rintro e w1 ⟨rfl,rfl⟩;exact zI1
  have Hb:(xs.length:Int)<=(k:Int):=by omega
  have HX:=mA (zDy p xs k (by omega) ht.out);go_wp2
  go_ret
  exact ⟨⟨_,rfl,by rw [HX.out];rfl⟩,rfl⟩
theorem zH1 {P:Prop} (h:P:=by
 go_wp2_with fail
 refine HC.out.mono ?_;rintro e w1 ⟨⟨r,rfl,hr⟩,rfl⟩;have HR:=mA hr;clear hr;go_wp2
 go_ret
 exact ⟨zAb (zBa HR.out),rfl⟩):P:=h
theorem zJv (p:Scu.Str->Bool) (hp:∀ (s:ByteArray) (w:World),s.size<=R47->Calls Tryz.prog 124 #[.string s] w fun e w'=>e=.returned (.bool (p s))/\w=w') (v:Value) (xs:List Scu.Str) (w:World) (B:Nat) (hv:IsStrs w B v xs) :
 Calls Tryz.prog 123 #[v,.func (.func 124) #[] #[]] w fun e w'=>e=.returned (.bool (xs.any p))/\w=w':=by
 have HC:=mA (zNj p hp v xs w B hv);obtain ⟨⟨A,c,rfl,_,hr⟩,hl,he⟩:=hv;clear hp hr he hl;go_enter Tryz.func123,Tryz.ntmps123
 exact zH1
theorem zNk {α:Type} (l:List α) (p q:α->Bool) (h:∀ x ∈ l,p x = !q x):l.all q = !l.any p:=by
 induction l with
 | nil=>rfl
 | cons x l ih =>
   rw [List.all_cons,List.any_cons,ih fun y hy=>h y (List.mem_cons_of_mem _ hy),h x List.mem_cons_self];cases q x <;> simp
theorem zGx (xs:List Scu.Str):Scu.sectorsOk xs=(xs.length == 6 && !xs.any fun s=>decide (8 < s.size)):=by
 unfold Scu.sectorsOk;rw [zNk xs (fun s=>decide (8 < s.size)) _ (fun x _=>by rw [Bool.eq_iff_iff];simp)]
theorem zMe (v:Value) (xs:List Scu.Str) (w:World) (B:Nat) (hv:IsStrs w B v xs) :
 Calls Tryz.prog 120 #[v] w fun e w'=>e=.returned (.bool (Scu.sectorsOk xs))/\w=w':=by
 have HC:=mA (zJv (fun s=>decide (8 < s.size)) zPr v xs w B hv);have Ha:=zGx xs;obtain ⟨⟨A,c,rfl,_,hr⟩,hl,he⟩:=hv;clear hr he;unfold R47 at hl;by_cases h6:xs.length=6
 ·have Hc:((xs.length:Int) == 6)=true:=by simp [h6]
  have hn:(xs.length == 6)=true:=by simp [h6]
  rw [hn,Bool.true_and] at Ha;have Hb:=mA Ha;clear Ha hn h6;go_enter Tryz.func120,Tryz.ntmps120
  go_wp2_with fail
  refine HC.out.mono ?_;rintro e w1 ⟨rfl,rfl⟩;go_wp2
  go_ret
  exact ⟨zAb (zBa Hb.out.symm),rfl⟩
 have Hc:((xs.length:Int) == 6)=false:=by simp;omega
 have hn:(xs.length == 6)=false:=by simp [h6]
 rw [hn,Bool.false_and] at Ha;have Hb:=mA Ha;clear Ha hn h6;go_enter Tryz.func120,Tryz.ntmps120
 go_wp2
 go_ret
 exact ⟨zAb (zBa Hb.out.symm),rfl⟩
theorem zOo (v:Value) (xs:List Scu.Str) (w:World) (B:Nat) (hv:IsStrs w B v xs) :
 Calls Tryz.prog 122 #[v] w fun e w'=>e=.returned (.bool (!Scu.sectorsOk xs))/\w=w':=by
 have HC:=mA (zMe v xs w B hv);obtain ⟨A,n,c,rfl⟩:=hv.form;clear hv;go_enter Tryz.func122,Tryz.ntmps122
 go_wp2_with fail
 refine HC.out.mono ?_;rintro e w1 ⟨rfl,rfl⟩;go_wp2
 go_ret
 exact ⟨rfl,rfl⟩
theorem zNl (v:Value) (xss:List (List Scu.Str)) (w:World) (B:Nat) (hv:IsRows w B v xss) :
 Calls Tryz.prog 125 #[v,.func (.func 122) #[] #[]] w fun e w'=>IdxPost (xss.any fun l=>!Scu.sectorsOk l) e/\w=w':=by
 obtain ⟨⟨A,c,vs,rfl,_,hr,Hc,Hd⟩,hl⟩:=hv;have Hf:=mA Hc;have Hg:=mA Hd;clear Hc Hd;unfold R47 at hl;go_enter Tryz.func125,Tryz.ntmps125
 go_wp2
 go_loop [8] (fun i=>∃ k:Nat,k<=xss.length/\i=.int .i64 k/\Hid ((xss.take k).any (fun l=>!Scu.sectorsOk l)=false)) (fun i=>xss.length - (intOf i).toNat)
 case atStart=>exact ⟨0,mE _,rfl,by simp [Hid]⟩
 case round =>
  obtain ⟨k,hk,rfl,ht⟩:=hrel;by_cases Ha:k < xss.length
  ·have Hb:(k:Int) < (xss.length:Int):=by omega
   obtain ⟨g,o,p,rfl,_,hc,hp⟩:=zGw hr Hf.out Hg.out Ha;have He:=mA hp;obtain ⟨A1,n1,c1,rfl⟩:=hp.form;clear hp;by_cases hx:(!Scu.sectorsOk xss[k])=true
   ·have HX:=mA (zCt (fun l=>!Scu.sectorsOk l) xss k Ha hx);go_wp2_with fail
    refine (zOo _ _ _ B He.out).mono ?_;rintro e w1 ⟨rfl,rfl⟩;go_wp2
    go_ret
    exact ⟨⟨_,rfl,by rw [HX.out];simp⟩,rfl⟩
   have Hh:(!Scu.sectorsOk xss[k])=false:=by simpa using hx
   have HX:=mA (show (xss.take (k+1)).any (fun l=>!Scu.sectorsOk l)=false by rw [zDx _ xss k Ha,ht.out,Hh];rfl);clear hx;go_wp2_with fail
   refine (zOo _ _ _ B He.out).mono ?_;rintro e w1 ⟨rfl,rfl⟩;exact zI1
  have Hb:(xss.length:Int)<=(k:Int):=by omega
  have HX:=mA (zDy _ xss k (by omega) ht.out);go_wp2
  go_ret
  exact ⟨⟨_,rfl,by rw [HX.out];rfl⟩,rfl⟩
theorem zJw (v:Value) (xss:List (List Scu.Str)) (w:World) (B:Nat) (hv:IsRows w B v xss) :
 Calls Tryz.prog 121 #[v,.func (.func 122) #[] #[]] w fun e w'=>e=.returned (.bool (xss.any fun l=>!Scu.sectorsOk l))/\w=w':=by
 have HC:=mA (zNl v xss w B hv);obtain ⟨A,n,c,rfl⟩:=hv.form;clear hv;go_enter Tryz.func121,Tryz.ntmps121
 exact zH1
theorem zMf (x:Scu.Volume):Scu.volFault x=if (!Scu.sectorsOk x.now || decide ((3:Int) < (x.snaps.length:Int)) || x.snaps.any fun l=>!Scu.sectorsOk l)=true then 8 else 0:=by
 have e:Scu.volOk x = !(!Scu.sectorsOk x.now || decide ((3:Int) < (x.snaps.length:Int)) || x.snaps.any fun l=>!Scu.sectorsOk l):=by
  unfold Scu.volOk;rw [zNk x.snaps (fun l=>!Scu.sectorsOk l) _ (fun _ _=>rfl)];have:decide (x.snaps.length<=3) = !decide ((3:Int) < (x.snaps.length:Int)):=by rw [Bool.eq_iff_iff];simp;omega
  rw [this];simp
 unfold Scu.volFault;rw [e];cases (!Scu.sectorsOk x.now || decide ((3:Int) < (x.snaps.length:Int)) || x.snaps.any fun l=>!Scu.sectorsOk l) <;> rfl
theorem zCd (nv sv:Value) (x:Scu.Volume) (w:World) (B:Nat) (hv:IsVolume w B nv sv x) :
 Calls Tryz.prog 118 #[.agg #[nv,sv]] w fun e w'=>e=.returned (.int .i64 (Scu.volFault x))/\Below w.heap.size w w':=by
 have hf:=zMf x;have HV:=mA hv;obtain ⟨A1,n1,c1,rfl⟩:=hv.now.form;obtain ⟨⟨A,c,vs,rfl,_,_,_,_⟩,hl⟩:=hv.snaps;unfold R47 at hl;clear hv;cases h1:Scu.sectorsOk x.now <;> cases h2:decide ((3:Int) < (x.snaps.length:Int)) <;> cases h3:x.snaps.any fun l=>!Scu.sectorsOk l
 all_goals
  rw [h1,h2,h3] at hf;have HF:=mA hf;have H1:=mA h1;have H3:=mA h3;clear hf h1 h3;go_enter Tryz.func118,Tryz.ntmps118
  go_wp2_with (first
   | (go_at_call 120;refine (zMe _ _ _ B (HV.out.now.alloc _)).mono ?_;rintro e w1 ⟨rfl,rfl⟩;rw [H1.out])
   | (go_at_call 121;refine (zJw _ _ _ B (HV.out.snaps.alloc _)).mono ?_;rintro e w1 ⟨rfl,rfl⟩;rw [H3.out]))
  go_ret
  exact ⟨zAb (zAd (by rw [HF.out];rfl)),(mG _ _).alloc (mC _) _⟩
end Go.Proofs.YtlngfbngnnepiaaGreat
