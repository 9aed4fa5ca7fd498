/- Part 22: words and walks under the laws of the whole. -/
import Derived.Test.YtlngfbngnnepiaaGreatZZ16
set_option linter.unusedVariables false
set_option linter.unusedSimpArgs false
set_option maxHeartbeats 4000000
set_option maxRecDepth 100000
namespace Go.Proofs.YtlngfbngnnepiaaGreat
open Go.RowKit
def repV (r:Scu.Replica) (lu hv wv gv nv:Value):List Value:=[.int .i64 r.me,.int .i64 r.kept.view,.int .i64 r.kept.normal,.bool r.kept.calm,lu,.int .i64 r.kept.commit,hv,wv,gv,nv]
def RepE (w:World) (B:Nat) (cs:List Value) (r:Scu.Replica):Prop:=∃ lu hv wv gv nv,cs=repV r lu hv wv gv nv/\IsRep w B lu hv wv gv nv r
def RowE (w:World) (B:Nat) (cs:List Value) (l:List Scu.Str):Prop:=∃ u,cs=[u]/\IsStrs w B u l
def custV (c:Scu.Customer):List Value:=[.int .i64 c.id,.int .i64 c.next,.int .i64 c.wait.client,.int .i64 c.wait.num,.int .i64 c.wait.op.kind,.int .i64 c.wait.op.at_,.int .i64 c.wait.op.snap,.string c.wait.op.data]
def CustE (_:World) (_:Nat) (cs:List Value) (c:Scu.Customer):Prop:=cs=custV c
def toldV (t:Scu.Told):List Value:=[.int .i64 t.request.client,.int .i64 t.request.num,.int .i64 t.request.op.kind,.int .i64 t.request.op.at_,.int .i64 t.request.op.snap,.string t.request.op.data,.int .i64 t.reply.code,.int .i64 t.reply.n,.string t.reply.data]
def ToldE (_:World) (_:Nat) (cs:List Value) (t:Scu.Told):Prop:=cs=toldV t
section
variable {w w':World} {B:Nat} {Ts:List TypeId} {cs:List Value}
theorem RepE.same {r:Scu.Replica} (h:RepE w B cs r) (hT:∀ t ∈ [9,3,4,42],t ∈ Ts) (hs:Same Ts B w w'):RepE w' B cs r:=by
 obtain ⟨lu,hv,wv,gv,nv,e,h⟩:=h;exact ⟨lu,hv,wv,gv,nv,e,h.same (hs.mono hT (mC _))⟩
theorem RowE.same {l:List Scu.Str} (h:RowE w B cs l) (hT:9 ∈ Ts) (hs:Same Ts B w w'):RowE w' B cs l:=by
 obtain ⟨u,e,h⟩:=h;exact ⟨u,e,h.same hT hs⟩
theorem RepE.len {r:Scu.Replica} (h:RepE w B cs r):cs.length=10:=by
 obtain ⟨lu,hv,wv,gv,nv,rfl,h⟩:=h;rfl
theorem MsgE.len {m:Scu.Message} (h:MsgE w B cs m):cs.length=8:=by
 obtain ⟨lu,rfl,h⟩:=h;rfl
theorem RowE.len {l:List Scu.Str} (h:RowE w B cs l):cs.length=1:=by
 obtain ⟨u,rfl,h⟩:=h;rfl
end
theorem zNw:ElT 23 47 10 160:=by
 obtain ⟨i,h1,h2,h3,h4⟩:=info_parts (P:=Tryz.prog) (e:=47) (z:=.agg zR) (size:=10) (bytes:=160) (by kernel_rfl);exact ⟨Tryz.underlying23,by omega,i,_,h1,h2,h3,h4,rfl⟩
theorem zTu:ElT 26 55 8 72:=by
 obtain ⟨i,h1,h2,h3,h4⟩:=info_parts (P:=Tryz.prog) (e:=55) (z:=.agg #[.int .i64 0,.int .i64 0,.int .i64 0,.int .i64 0,.int .i64 0,.int .i64 0,.int .i64 0,.string ByteArray.empty]) (size:=8) (bytes:=72) (by kernel_rfl);exact ⟨Tryz.underlying26,by omega,i,_,h1,h2,h3,h4,rfl⟩
theorem zPb:ElT 27 71 9 88:=by
 obtain ⟨i,h1,h2,h3,h4⟩:=info_parts (P:=Tryz.prog) (e:=71) (z:=.agg #[.int .i64 0,.int .i64 0,.int .i64 0,.int .i64 0,.int .i64 0,.string ByteArray.empty,.int .i64 0,.int .i64 0,.string ByteArray.empty]) (size:=9) (bytes:=88) (by kernel_rfl);exact ⟨Tryz.underlying27,by omega,i,_,h1,h2,h3,h4,rfl⟩
theorem zPc:ElT 28 31 1 8:=by
 obtain ⟨i,h1,h2,h3,h4⟩:=info_parts (P:=Tryz.prog) (e:=31) (z:=.int .i64 0) (size:=1) (bytes:=8) (by kernel_rfl);exact ⟨Tryz.underlying28,by omega,i,_,h1,h2,h3,h4,rfl⟩
theorem zJn:∀ (vs l r:List Value) (o:Nat),o+vs.length<=l.length->putAt (l ++ r) o vs=putAt l o vs ++ r
 | [],_,_,_,_=>rfl
 | v :: vs,l,r,o,h=>by
   simp only [List.length_cons] at h
   rw [putAt,putAt,List.set_append_left _ _ (by omega),zJn vs _ r (o+1) (by rw [List.length_set];omega)]
theorem zMs {m:Nat} : ∀ {css:List (List Value)} (_:∀ cs ∈ css,cs.length=m) (k:Nat) (hk:k < css.length) (j:Nat) (vs:List Value) (_:j+vs.length<=m),putAt css.flatten (k*m+j) vs=(css.set k (putAt css[k] j vs)).flatten
 | [],_,k,hk,_,_,_=>by cases hk
 | c :: css,h,0,_,j,vs,hv=>by
   rw [Nat.zero_mul,Nat.zero_add,List.flatten_cons,zJn _ _ _ _ (by rw [h c List.mem_cons_self];exact hv),List.set_cons_zero,List.flatten_cons];rfl
 | c :: css,h,k+1,hk,j,vs,hv=>by
   have hc:=h c List.mem_cons_self;rw [List.flatten_cons,show (k+1)*m+j=c.length+(k*m+j) by rw [hc,Nat.succ_mul];omega,zDk,List.set_cons_succ,List.flatten_cons,
    zMs (fun x hx=>h x (List.mem_cons_of_mem _ hx)) k (by simpa using hk) j vs hv]
   rfl
section
variable {α:Type} {t:TypeId} {size bytes:Nat} {El:World->Nat->List Value->α->Prop} {w w':World} {base base':Nat} {v:Value} {xs:List α} {css:List (List Value)} {Ts:List TypeId}
theorem OwnR.puts {g c n:Nat} (h:OwnR t size bytes El w base (.slice (some ⟨g,0,none⟩) n c) xs css) {k:Nat} (hk:k < xs.length) (j:Nat) (vs:List Value) (hj:j+vs.length<=size) {cs cs':List Value} {x:α} (Hb:css[k]? = some cs) (e:putAt cs j vs=cs')
 (Hc:∀ cs x,El w 0 cs x->El (w.setCells g (k*size+j) vs) 0 cs x) (hx:El w 0 cs' x):OwnR t size bytes El (w.setCells g (k*size+j) vs) base (.slice (some ⟨g,0,none⟩) n c) (xs.set k x) (css.set k cs'):=by
 subst e;have hn:n=xs.length:=by
  obtain ⟨A,c',e,_⟩:=zAi h.row;cases e
  rfl
 subst hn;have Ha:k < css.length:=by rw [h.len];exact hk
 obtain rfl:css[k]=cs:=by rw [mH Ha] at Hb;cases Hb;rfl
 refine ⟨by simp [h.len],?_,?_,?_,by simpa using h.max⟩
 ·intro c' Hd;rcases List.mem_or_eq_of_mem_set Hd with h' | rfl
  ·exact h.sz c' h'
  rw [zIc];exact h.sz _ (List.getElem_mem Ha)
 ·rw [List.length_set,<- zMs h.sz k Ha j vs hj];exact zHc vs (k*size+j) _ _ h.row
 intro i c' y h1 h2;by_cases hi:i=k
 ·subst hi;rw [List.getElem?_set_self Ha] at h1;rw [List.getElem?_set_self hk] at h2;cases h1
  cases h2
  exact Hc _ _ hx
 rw [List.getElem?_set_ne (fun e=>hi e.symm)] at h1 h2;exact Hc _ _ (h.each i c' y h1 h2)
theorem OwnR.erase {g c n:Nat} (h:OwnR t size bytes El w base (.slice (some ⟨g,0,none⟩) n c) xs css) {k:Nat} (hk:k < xs.length) (z:List Value) (hz:z.length=size)
 (Hd:∀ cs x,El w 0 cs x->El ((w.setCells g (k*size) (css.drop (k+1)).flatten).setCells g ((n - 1)*size) z) 0 cs x) :
 OwnR t size bytes El ((w.setCells g (k*size) (css.drop (k+1)).flatten).setCells g ((n - 1)*size) z) base (.slice (some ⟨g,0,none⟩) (n - 1) c) (xs.eraseIdx k) (css.eraseIdx k):=by
 have hn:n=xs.length:=by
  obtain ⟨A,c',e,_⟩:=zAi h.row;cases e
  rfl
 subst hn;have Hi:k < css.length:=by rw [h.len];exact hk
 have Hc:(xs.eraseIdx k).length=xs.length - 1:=List.length_eraseIdx_of_lt hk;have He:(css.eraseIdx k).length=css.length - 1:=List.length_eraseIdx_of_lt Hi;have Hb:∀ cs ∈ css.eraseIdx k,cs.length=size:=fun cs Ha=>h.sz cs (List.mem_of_mem_eraseIdx Ha)
 have hf:(css.eraseIdx k).flatten.length=(xs.length - 1)*size:=by rw [zBo Hb,He,h.len]
 refine ⟨by rw [Hc,He,h.len],Hb,?_,?_,?_⟩
 ·have h1:=zHc (css.drop (k+1)).flatten (k*size) _ _ h.row;have h2:=zHc z ((xs.length - 1)*size) _ _ h1;have hd:∀ cs ∈ css.drop (k+1),cs.length=size:=fun cs Ha=>h.sz cs (List.mem_of_mem_drop Ha)
  have ht:∀ cs ∈ css.take k,cs.length=size:=fun cs Ha=>h.sz cs (List.mem_of_mem_take Ha)
  have Hm:(css.take k).flatten.length=k*size:=by rw [zBo ht,List.length_take,Nat.min_eq_left (by omega)]
  have Hn:(css.drop (k+1)).flatten.length=(xs.length - 1 - k)*size:=by rw [zBo hd,List.length_drop,h.len];congr 1;omega
  have Hj:(xs.length - 1)*size=k*size+(xs.length - 1 - k)*size:=by rw [<- Nat.add_mul];congr 1;omega
  have Hf:xs.length*size=(xs.length - 1)*size+size:=by rw [<- Nat.succ_mul];congr 1;omega
  -- the cells behind both
  have e1:∃ r,r.length=size/\putAt (putAt css.flatten (k*size) (css.drop (k+1)).flatten) ((xs.length - 1)*size) z=(css.eraseIdx k).flatten ++ r:=by
   refine ⟨z,hz,?_⟩;have e2:css.flatten=(css.take k).flatten ++ (css.drop k).flatten:=by rw [<- List.flatten_append,List.take_append_drop]
   have Hg:(css.drop k).flatten.length=(xs.length - k)*size:=by rw [zBo (fun cs Ha=>h.sz cs (List.mem_of_mem_drop Ha)),List.length_drop,h.len]
   have Hh:(xs.length - k)*size=(xs.length - 1 - k)*size+size:=by rw [<- Nat.succ_mul];congr 1;omega
   obtain ⟨a,b,Hk,Ho,Hp⟩:∃ a b,(css.drop k).flatten=a ++ b/\a.length=(xs.length - 1 - k)*size/\b.length=size :=
    ⟨(css.drop k).flatten.take ((xs.length - 1 - k)*size),(css.drop k).flatten.drop ((xs.length - 1 - k)*size),(List.take_append_drop _ _).symm,by rw [List.length_take,Hg];omega,by rw [List.length_drop,Hg];omega⟩
   have e3:css.eraseIdx k=css.take k ++ css.drop (k+1):=List.eraseIdx_eq_take_drop_succ _ _;rw [e2,Hk,show k*size=(css.take k).flatten.length+0 by omega,zDk,zDq _ a b (by omega),
    show (xs.length - 1)*size=(css.take k).flatten.length+((css.drop (k+1)).flatten.length+0) by omega,zDk,zDk,
    show b=b ++ [] by simp,zDq z b [] (by omega),e3,List.flatten_append,List.append_nil,List.append_assoc]
  obtain ⟨r,hr,e1⟩:=e1;rw [e1] at h2;rw [Hc];obtain ⟨_,⟨h0,_⟩ | ⟨g',cap,cur,e,hb,hh,Hq,hm,Ha,Hl⟩⟩:=h2
  ·cases h0
  cases e
  refine ⟨by rw [hf],.inr ⟨g,c,cur,rfl,hb,hh,by omega,hm,Ha,?_⟩⟩;have:cur.toList.take ((xs.length - 1)*size)=(cur.toList.take (xs.length*size)).take ((xs.length - 1)*size):=by rw [List.take_take,Nat.min_eq_left (by omega)]
  rw [this,Hl,List.take_left' hf]
 ·intro i c' y h1 h2;rw [List.getElem?_eraseIdx] at h1 h2;split at h1
  ·rename_i hik
   rw [if_pos hik] at h2;exact Hd _ _ (h.each _ _ _ h1 h2)
  rename_i hik
  rw [if_neg hik] at h2;exact Hd _ _ (h.each _ _ _ h1 h2)
 rw [Hc];exact mD (Nat.mul_le_mul_right _ (by omega)) h.max
end
theorem zDr {w w':World} {g o n B:Nat} (h:w.there g o n) (hb:Below B w w') (hg:g < B):w'.there g o n:=fun j hj=>⟨by rw [hb.cell (p:=⟨g,o+j,none⟩) hg];exact (h j hj).1,by rw [hb.frozen (p:=⟨g,o+j,none⟩) hg];exact (h j hj).2⟩
theorem zFr {g:Nat} {q:Addr} (h:q.block≠g):∀ {vs:List Value} {o:Nat} {w:World},(w.setCells g o vs).cell? q=w.cell? q
 | [],_,_=>rfl
 | v :: r,o,w=>by rw [World.setCells,zFr h];exact World.cell?_of_block (Below.heap_setCell w ⟨g,o,none⟩ v q.block h)
def Fr (base:Nat) (w w':World):Prop:=Below base w w'/\Same [9,3,4,42,30,31] 0 w w'
theorem Fr.refl (base:Nat) (w:World):Fr base w w:=⟨mG _ _,Same.refl _ _ _⟩
theorem Fr.trans {base:Nat} {w w1 w2:World} (h:Fr base w w1) (k:Fr base w1 w2):Fr base w w2:=⟨h.1.trans k.1,h.2.trans k.2⟩
theorem Fr.of {base:Nat} {w w1:World} (h:Below w.heap.size w w1) (hb:base<=w.heap.size):Fr base w w1:=⟨h.mono hb,Same.below h⟩
theorem Fr.size {base:Nat} {w w1:World} (h:Fr base w w1):w.heap.size<=w1.heap.size:=h.1.size
theorem Fr.drew {base:Nat} {w w1:World} (h:Fr base w w1):Fr base w w1.drew:=⟨h.1.drew,h.2.trans (Same.drew _)⟩
abbrev NT:Bool->TypeId
 | false=>38
 | true=>64
structure NetG (s:Bool) (w:World) (base gx:Nat) (x:Scu.Net) (rv sv fv cv tv:Value):Prop where
 box:Blk w gx (NT s) #[rv,sv,fv,cv,tv]
 reps:∃ css,OwnR 47 10 160 RepE w base rv x.replicas css
 slots:∃ css,OwnR 39 1 24 RowE w base sv x.slots css
 fly:∃ css,OwnR 99 8 80 MsgE w base fv x.flying css
 cust:∃ css,OwnR 55 8 72 CustE w base cv x.clients css
 told:∃ css,OwnR 71 9 88 ToldE w base tv x.told css
 lx:base<=gx
def NetGE (s:Bool) (w:World) (base gx:Nat) (x:Scu.Net):Prop:=∃ rv sv fv cv tv,NetG s w base gx x rv sv fv cv tv
abbrev NetW:=NetG false
abbrev NetE:=NetGE false
section
variable {s:Bool} {w w' P w4:World} {base gx:Nat} {x:Scu.Net} {rv sv fv cv tv v4:Value} {Ts:List TypeId} {B:Nat}
theorem zCa {rs:List Scu.Replica} (h:∃ css,OwnR 47 10 160 RepE w base rv rs css) (hs:Same Ts 0 w w') (h1:47 ∈ Ts) (h2:∀ t ∈ [9,3,4,42],t ∈ Ts) :
 ∃ css,OwnR 47 10 160 RepE w' base rv rs css:=let ⟨css,h⟩:=h;⟨css,h.same h1 hs (fun _ _ hx=>hx.same h2 hs)⟩
theorem zBp {rs:List (List Scu.Str)} (h:∃ css,OwnR 39 1 24 RowE w base sv rs css) (hs:Same Ts 0 w w') (h1:39 ∈ Ts) (h2:9 ∈ Ts) :
 ∃ css,OwnR 39 1 24 RowE w' base sv rs css:=let ⟨css,h⟩:=h;⟨css,h.same h1 hs (fun _ _ hx=>hx.same h2 hs)⟩
theorem zDs {rs:List Scu.Message} (h:∃ css,OwnR 99 8 80 MsgE w base fv rs css) (hs:Same Ts 0 w w') (h1:99 ∈ Ts) (h2:9 ∈ Ts) :
 ∃ css,OwnR 99 8 80 MsgE w' base fv rs css:=let ⟨css,h⟩:=h;⟨css,h.same h1 hs (fun _ _ hx=>hx.same h2 hs)⟩
theorem zCl {rs:List Scu.Customer} (h:∃ css,OwnR 55 8 72 CustE w base cv rs css) (hs:Same Ts 0 w w') (h1:55 ∈ Ts) :
 ∃ css,OwnR 55 8 72 CustE w' base cv rs css:=let ⟨css,h⟩:=h;⟨css,h.same h1 hs (fun _ _ hx=>hx)⟩
theorem zCc {rs:List Scu.Told} (h:∃ css,OwnR 71 9 88 ToldE w base tv rs css) (hs:Same Ts 0 w w') (h1:71 ∈ Ts) :
 ∃ css,OwnR 71 9 88 ToldE w' base tv rs css:=let ⟨css,h⟩:=h;⟨css,h.same h1 hs (fun _ _ hx=>hx)⟩
theorem NetG.same (h:NetG s w base gx x rv sv fv cv tv) (hs:Same [NT s,47,39,99,55,71,9,3,4,42] 0 w w'):NetG s w' base gx x rv sv fv cv tv :=
 ⟨zAc h.box hs (by simp),zCa h.reps hs (by simp) (by simp),zBp h.slots hs (by simp) (by simp),zDs h.fly hs (by simp) (by simp),zCl h.cust hs (by simp),zCc h.told hs (by simp),h.lx⟩
theorem NetG.below (h:NetG s w base gx x rv sv fv cv tv) (hb:Below w.heap.size w w'):NetG s w' base gx x rv sv fv cv tv:=h.same (Same.below hb)
theorem NetG.alloc (h:NetG s w base gx x rv sv fv cv tv) (o:Obj):NetG s (w.alloc o) base gx x rv sv fv cv tv:=h.below (zAa w o)
theorem NetG.e (h:NetG s w base gx x rv sv fv cv tv):NetGE s w base gx x:=⟨_,_,_,_,_,h⟩
theorem NetGE.below (h:NetGE s w base gx x) (hb:Below w.heap.size w w'):NetGE s w' base gx x:=let ⟨_,_,_,_,_,h⟩:=h;⟨_,_,_,_,_,h.below hb⟩
theorem NetG.forms (h:NetG s w base gx x rv sv fv cv tv):∃ A0 c0 A1 c1 A2 c2 A3 c3 A4 c4,rv=.slice A0 x.replicas.length c0/\sv=.slice A1 x.slots.length c1/\fv=.slice A2 x.flying.length c2/\cv=.slice A3 x.clients.length c3/\tv=.slice A4 x.told.length c4:=by
 obtain ⟨_,h1⟩:=h.reps;obtain ⟨_,h2⟩:=h.slots;obtain ⟨_,h3⟩:=h.fly;obtain ⟨_,h4⟩:=h.cust;obtain ⟨_,h5⟩:=h.told;obtain ⟨_,_,rfl⟩:=h1.form;obtain ⟨_,_,rfl⟩:=h2.form;obtain ⟨_,_,rfl⟩:=h3.form;obtain ⟨_,_,rfl⟩:=h4.form;obtain ⟨_,_,rfl⟩:=h5.form;exact ⟨_,_,_,_,_,_,_,_,_,_,rfl,rfl,rfl,rfl,rfl⟩
theorem NetG.putRep {g n c k:Nat} (h:NetG s w base gx x (.slice (some ⟨g,0,none⟩) n c) sv fv cv tv) (hk:k < x.replicas.length) {cs:List Value} {r:Scu.Replica} (hx:RepE w 0 cs r) :
 NetG s (w.setCells g (k*10) cs) base gx { x with replicas:=x.replicas.set k r } (.slice (some ⟨g,0,none⟩) n c) sv fv cv tv/\Fr base w (w.setCells g (k*10) cs):=by
 obtain ⟨css,hr⟩:=h.reps;obtain ⟨g',c',_,e,hb,⟨cur,hB⟩,_⟩:=hr.at_ hk;cases e
 have hs:Same [NT s,39,99,55,71,9,3,4,42,30,31] 0 w (w.setCells g (k*10) cs):=Same.sets cs (k*10) w cur hB (by cases s <;> decide);exact ⟨⟨zAc h.box hs (by simp),⟨_,hr.put hk hx.len hx (fun _ _ hx=>hx.same (by simp) hs) rfl⟩,zBp h.slots hs (by simp) (by simp),zDs h.fly hs (by simp) (by simp),zCl h.cust hs (by simp),zCc h.told hs (by simp),h.lx⟩,zAr hb cs (k*10) w w (mG _ _),hs.mono (by simp) (mC _)⟩
theorem NetG.putSlot {g n c k:Nat} (h:NetG s w base gx x rv (.slice (some ⟨g,0,none⟩) n c) fv cv tv) (hk:k < x.slots.length) {u:Value} {l:List Scu.Str} (hx:IsStrs w 0 u l) :
 NetG s (w.setCell ⟨g,k,none⟩ u) base gx { x with slots:=x.slots.set k l } rv (.slice (some ⟨g,0,none⟩) n c) fv cv tv/\Fr base w (w.setCell ⟨g,k,none⟩ u):=by
 obtain ⟨css,hr⟩:=h.slots;obtain ⟨g',c',_,e,hb,⟨cur,hB⟩,_⟩:=hr.at_ hk;cases e
 have hs:Same [NT s,47,99,55,71,9,3,4,42,30,31] 0 w (w.setCell ⟨g,k,none⟩ u):=Same.set_ hB (mE _) (by cases s <;> decide) k u;have hp:=hr.put hk (cs:=[u]) (x:=l) rfl ⟨u,rfl,hx⟩ (cs':=[u]) (fun _ _ hx=>hx.same (Ts:=[9]) (by simp) (by rw [Nat.mul_one];exact hs.mono (by simp) (mC _))) rfl;rw [Nat.mul_one] at hp;exact ⟨⟨zAc h.box hs (by simp),zCa h.reps hs (by simp) (by simp),⟨_,hp⟩,zDs h.fly hs (by simp) (by simp),zCl h.cust hs (by simp),zCc h.told hs (by simp),h.lx⟩,(mG base w).setCell (p:=⟨g,k,none⟩) hb u,hs.mono (by simp) (mC _)⟩
theorem NetG.xcell (h:NetG s w base gx x rv sv fv cv tv) (i:Nat) (u:Value) :
 Same [47,39,99,55,71,9,3,4,42,30,31] 0 w (w.setCell ⟨gx,i,none⟩ u)/\Below base w (w.setCell ⟨gx,i,none⟩ u) :=
 ⟨Same.set_ h.box (mE _) (by cases s <;> decide) i u,(mG base w).setCell (p:=⟨gx,i,none⟩) h.lx u⟩
theorem NetG.pushFly (h:NetG s P base gx x rv sv fv cv tv) {css:List (List Value)} (hf:OwnR 99 8 80 MsgE P base fv x.flying css) {cs:List Value} {m:Scu.Message} (hx:MsgE P 0 cs m) (hm:(x.flying.length+1)*80<=R47)
 (h4:w4.ownsRow base 99 8 v4 (x.flying.length+1) (css.flatten ++ cs)) (hg:P.grownBy w4 fv.ownBlock) (hb:base<=P.heap.size) :
 NetG s (w4.setCell ⟨gx,2,none⟩ v4) base gx { x with flying:=x.flying ++ [m] } rv sv v4 cv tv/\Fr base P (w4.setCell ⟨gx,2,none⟩ v4):=by
 have Hb:Same [NT s,47,39,55,71,9,3,4,42,30,31] 0 P w4:=Same.own hf.row hg (mE _) (by cases s <;> decide);have Ha:=zAc h.box Hb (by simp);have Hc:Same [47,39,99,55,71,9,3,4,42,30,31] 0 w4 (w4.setCell ⟨gx,2,none⟩ v4):=Same.set_ Ha (mE _) (by cases s <;> decide) 2 v4;have hs:Same [47,39,55,71,9,3,4,42,30,31] 0 P (w4.setCell ⟨gx,2,none⟩ v4):=(Hb.mono (by simp) (mC _)).trans (Hc.mono (by simp) (mC _));have hp:=hf.push hm hx.len (hx.same (Ts:=[9]) (by simp) (Hb.mono (by simp) (mC _))) h4 (fun _ _ hx=>hx.same (Ts:=[9]) (by simp) (Hb.mono (by simp) (mC _)));refine ⟨⟨Ha.set_ 2 v4,zCa h.reps hs (by simp) (by simp),zBp h.slots hs (by simp) (by simp),zDs ⟨_,hp⟩ Hc (by simp) (by simp),zCl h.cust hs (by simp),zCc h.told hs (by simp),h.lx⟩,?_⟩;exact ⟨((mG base P).grown hg hb (fun q hq=>(hf.row.lt q hq).1)).setCell (p:=⟨gx,2,none⟩) h.lx v4,hs.mono (by simp) (mC _)⟩
theorem NetG.pushTold (h:NetG s P base gx x rv sv fv cv tv) {css:List (List Value)} (hf:OwnR 71 9 88 ToldE P base tv x.told css) {t:Scu.Told} (hm:(x.told.length+1)*88<=R47)
 (h4:w4.ownsRow base 71 9 v4 (x.told.length+1) (css.flatten ++ toldV t)) (hg:P.grownBy w4 tv.ownBlock) (hb:base<=P.heap.size) :
 NetG s (w4.setCell ⟨gx,4,none⟩ v4) base gx { x with told:=x.told ++ [t] } rv sv fv cv v4/\Fr base P (w4.setCell ⟨gx,4,none⟩ v4):=by
 have Hb:Same [NT s,47,39,55,99,9,3,4,42,30,31] 0 P w4:=Same.own hf.row hg (mE _) (by cases s <;> decide);have Ha:=zAc h.box Hb (by simp);have Hc:Same [47,39,99,55,71,9,3,4,42,30,31] 0 w4 (w4.setCell ⟨gx,4,none⟩ v4):=Same.set_ Ha (mE _) (by cases s <;> decide) 4 v4;have hs:Same [47,39,55,99,9,3,4,42,30,31] 0 P (w4.setCell ⟨gx,4,none⟩ v4):=(Hb.mono (by simp) (mC _)).trans (Hc.mono (by simp) (mC _));have hp:=hf.push hm (x:=t) (cs:=toldV t) rfl rfl h4 (fun _ _ hx=>hx);refine ⟨⟨Ha.set_ 4 v4,zCa h.reps hs (by simp) (by simp),zBp h.slots hs (by simp) (by simp),zDs h.fly hs (by simp) (by simp),zCl h.cust hs (by simp),zCc ⟨_,hp⟩ Hc (by simp),h.lx⟩,?_⟩;exact ⟨((mG base P).grown hg hb (fun q hq=>(hf.row.lt q hq).1)).setCell (p:=⟨gx,4,none⟩) h.lx v4,hs.mono (by simp) (mC _)⟩
theorem NetG.putCust {g n c k:Nat} (h:NetG s w base gx x rv sv fv (.slice (some ⟨g,0,none⟩) n c) tv) (hk:k < x.clients.length) (j:Nat) (vs:List Value) (hj:j+vs.length<=8) {u:Scu.Customer} (hu:putAt (custV x.clients[k]) j vs=custV u) :
 NetG s (w.setCells g (k*8+j) vs) base gx { x with clients:=x.clients.set k u } rv sv fv (.slice (some ⟨g,0,none⟩) n c) tv/\Fr base w (w.setCells g (k*8+j) vs):=by
 obtain ⟨css,hr⟩:=h.cust;obtain ⟨g',c',cs,e,hb,⟨cur,hB⟩,Ha,_,Hb,_⟩:=hr.at_ hk;cases e
 have Hc:cs=custV x.clients[k]:=Hb;subst Hc;have hs:Same [NT s,47,39,99,71,9,3,4,42,30,31] 0 w (w.setCells g (k*8+j) vs):=Same.sets vs (k*8+j) w cur hB (by cases s <;> decide);exact ⟨⟨zAc h.box hs (by simp),zCa h.reps hs (by simp) (by simp),zBp h.slots hs (by simp) (by simp),zDs h.fly hs (by simp) (by simp),⟨_,hr.puts hk j vs hj Ha hu (fun _ _ hx=>hx) rfl⟩,zCc h.told hs (by simp),h.lx⟩,zAr hb vs (k*8+j) w w (mG _ _),hs.mono (by simp) (mC _)⟩
theorem NetG.repAt (h:NetG s w base gx x rv sv fv cv tv) {k:Nat} (hk:k < x.replicas.length):∃ g c lu hv wv gv nv,rv=.slice (some ⟨g,0,none⟩) x.replicas.length c/\base<=g/\g < w.heap.size/\IsRep w 0 lu hv wv gv nv x.replicas[k]/\w.rangeAt g (k*10) (repV x.replicas[k] lu hv wv gv nv)/\w.there g (k*10) 10/\∃ cur,Blk w g 47 cur:=by
 obtain ⟨css,hr⟩:=h.reps;obtain ⟨g,c,cs,e,hb,⟨cur,hB⟩,Hc,_,⟨lu,hv,wv,gv,nv,rfl,hi⟩,Ha,Hb⟩:=hr.at_ hk;exact ⟨g,c,lu,hv,wv,gv,nv,e,hb,hB.lt,hi,Ha,Hb,cur,hB⟩
theorem NetG.slotAt (h:NetG s w base gx x rv sv fv cv tv) {k:Nat} (hk:k < x.slots.length):∃ g c u,sv=.slice (some ⟨g,0,none⟩) x.slots.length c/\base<=g/\g < w.heap.size/\IsStrs w 0 u x.slots[k]/\w.cell? ⟨g,k,none⟩=some u/\(∀ j,w.frozen? ⟨g,j,none⟩=false)/\∃ cur,Blk w g 39 cur:=by
 obtain ⟨css,hr⟩:=h.slots;obtain ⟨g,c,cs,e,hb,⟨cur,hB⟩,Hb,_,⟨u,rfl,hi⟩,Ha,Hc⟩:=hr.at_ hk;refine ⟨g,c,u,e,hb,hB.lt,hi,?_,hB.frozen,cur,hB⟩;have:=Ha 0 u rfl;rwa [Nat.mul_one] at this
theorem NetG.flyAt (h:NetG s w base gx x rv sv fv cv tv) {k:Nat} (hk:k < x.flying.length):∃ g c lu,fv=.slice (some ⟨g,0,none⟩) x.flying.length c/\base<=g/\g < w.heap.size/\IsStrs w 0 lu x.flying[k].log/\w.rangeAt g (k*8) (msgV x.flying[k] lu)/\w.there g (k*8) 8/\∃ cur,Blk w g 99 cur:=by
 obtain ⟨css,hr⟩:=h.fly;obtain ⟨g,c,cs,e,hb,⟨cur,hB⟩,Hc,_,⟨lu,rfl,hi⟩,Ha,Hb⟩:=hr.at_ hk;exact ⟨g,c,lu,e,hb,hB.lt,hi,Ha,Hb,cur,hB⟩
theorem NetG.custAt (h:NetG s w base gx x rv sv fv cv tv) {k:Nat} (hk:k < x.clients.length):∃ g c,cv=.slice (some ⟨g,0,none⟩) x.clients.length c/\base<=g/\g < w.heap.size/\w.rangeAt g (k*8) (custV x.clients[k])/\w.there g (k*8) 8/\∃ cur,Blk w g 55 cur:=by
 obtain ⟨css,hr⟩:=h.cust;obtain ⟨g,c,cs,e,hb,⟨cur,hB⟩,He,_,Ha,Hb,Hc⟩:=hr.at_ hk;have Hd:cs=custV x.clients[k]:=Ha;subst Hd;exact ⟨g,c,e,hb,hB.lt,Hb,Hc,cur,hB⟩
end
open Go.RowKit
theorem zHv (g j:Nat):(⟨g,0,none⟩:Addr).add j=⟨g,j,none⟩:=by unfold Addr.add;split <;> simp_all
theorem IsRow.at_block {α:Type} {t:TypeId} {m bytes:Nat} {El:World->Nat->List Value->α->Prop} {w w':World} {v:Value} {xs:List α} (h:IsRow t m bytes El w 0 v xs) (hs:w.heap.size<=w'.heap.size)
 (hk:∀ g,v.ownBlock=some g->g < w.heap.size->w'.heap[g]? = w.heap[g]?) (Ha:∀ cs x,El w 0 cs x->El w' 0 cs x):IsRow t m bytes El w' 0 v xs:=by
 obtain ⟨⟨A,c,css,rfl,h2,h3,h4,h5,h6⟩,h7⟩:=h;refine ⟨⟨A,c,css,rfl,h2,h3,h4,?_,fun j cs x hj hx=>Ha cs x (h6 j cs x hj hx)⟩,h7⟩;rcases h5 with h | ⟨g,o,rfl,hg,hh,hc⟩
 ·exact .inl h
 have e:=hk g rfl hg;refine .inr ⟨g,o,rfl,mF hg hs,?_,fun j u hj=>?_⟩
 ·rw [e];exact hh
 rw [World.cell?_of_block (w:=w) (w':=w') (a:=⟨g,o+j,none⟩) e];exact hc j u hj
theorem zFs {f ms:List Scu.Message} {k:Nat} (hk:k < ms.length):Scu.sendAll f (ms.take (k+1))=if (Scu.sendAll f (ms.take k)).length < 80 then Scu.sendAll f (ms.take k) ++ [ms[k]] else Scu.sendAll f (ms.take k):=by
 rw [List.take_succ_eq_append_getElem hk];unfold Scu.sendAll;rw [List.foldl_append];rfl
theorem zEm:∀ (l f:List Scu.Message),f.length<=80->(Scu.sendAll f l).length<=80
 | [],f,h=>h
 | m :: l,f,h=>by
   show (Scu.sendAll (if f.length < 80 then f ++ [m] else f) l).length<=80
   refine zEm l _ ?_;split
   ·simp;omega
   ·exact h
theorem zIf {s:Bool} {Wd x4:World} {base gx n:Nat} {y:Scu.Net} {rv sv fv cv tv v4 lx:Value} {fss:List (List Value)} {m:Scu.Message} {o:Obj} (Hd:NetG s Wd base gx y rv sv fv cv tv) (He:OwnR 99 8 80 MsgE Wd base fv y.flying fss) (hx:IsStrs Wd 0 lx m.log)
 (Ha:base<=Wd.heap.size) (hm:(y.flying.length+1)*80<=R47) (hn:n=y.flying.length) (h4:x4.ownsRow base 99 8 v4 (n+1) (fss.flatten ++ msgV m lx)) (hg:((Wd.alloc o).drew).grownBy x4 fv.ownBlock) :
 (NetG s (x4.setCell ⟨gx,2,none⟩ v4) base gx { y with flying:=y.flying ++ [m] } rv sv v4 cv tv/\Fr base Wd (x4.setCell ⟨gx,2,none⟩ v4))/\x4.cell? ⟨gx,2,none⟩=some fv/\(∀ j,x4.frozen? ⟨gx,j,none⟩=false)/\gx < x4.heap.size:=by
 subst hn;have Hb:=(zAa Wd o).drew;have hP:=Hd.below Hb;have Hg:=Hb.size;have Hf:=hP.pushFly (m:=m) (cs:=msgV m lx) (He.same (B:=0) (Ts:=[9,99]) (by simp) (Same.below Hb) (fun _ _ h=>h.same (Ts:=[9]) (by simp) (Same.below Hb))) ⟨_,rfl,hx.below Hb⟩ hm h4 hg (mD Ha Hg);have Hc:=zAc hP.box (Ts:=[NT s]) (Same.own (zAg He.row Hb) hg (mE _) (by cases s <;> decide)) (by simp);exact ⟨⟨Hf.1,(Fr.of Hb Ha).trans Hf.2⟩,Hc.cell 2,Hc.frozen,Hc.lt⟩
theorem zNx {W:World} {m:Scu.Message} {Al:Option Addr} {nl cl:Nat} : ∀ (j:Nat) (v:Value),(msgV m (.slice Al nl cl))[j]? = some v->((W.alloc (.cells #[.int .i64 m.kind,.int .i64 m.from_,.int .i64 m.tq,.int .i64 m.view,.int .i64 m.normal,.int .i64 m.commit,.int .i64 m.n,.slice Al nl cl] 99)).drew).cell? ((⟨W.heap.size,0,none⟩:Addr).add j)=some v:=by
 intro j v hj;rw [zHv];refine (((Blk.new W 99 #[.int .i64 m.kind,.int .i64 m.from_,.int .i64 m.tq,.int .i64 m.view,.int .i64 m.normal,.int .i64 m.commit,.int .i64 m.n,.slice Al nl cl]).drew).cell j).trans ?_;simpa [msgV] using hj
theorem zNy {m:Scu.Message} {Al:Option Addr} {nl cl:Nat} : ∀ v ∈ msgV m (.slice Al nl cl),v.oneCell'=true:=by
 intro v hv;simp only [msgV,List.mem_cons,List.not_mem_nil,or_false] at hv
 rcases hv with rfl | rfl | rfl | rfl | rfl | rfl | rfl | rfl <;> rfl
structure SndG (s:Bool) (base gx:Nat) (x:Scu.Net) (w:World) (ov:Value) (ms:List Scu.Message) (k:Nat) (rv sv fv cv tv:Value) (wr:World):Prop where
 net:NetG s wr base gx { x with flying:=Scu.sendAll x.flying (ms.take k) } rv sv fv cv tv
 row:IsRow 99 8 80 MsgE wr 0 ov ms
 apart:∀ g,ov.ownBlock=some g->fv.ownBlock≠some g
 low:Fr base w wr
abbrev SndI:=SndG false
theorem SndG.below {s:Bool} {base gx:Nat} {x:Scu.Net} {w:World} {ov:Value} {ms:List Scu.Message} {k:Nat} {rv sv fv cv tv:Value} {wr w':World} (hb:base<=w.heap.size) (h:SndG s base gx x w ov ms k rv sv fv cv tv wr) (hd:Below wr.heap.size wr w'):SndG s base gx x w ov ms k rv sv fv cv tv w' :=
 ⟨h.net.below hd,h.row.same (Ts:=[9,99]) (by simp) (Same.below hd) (fun _ _ h=>h.same (Ts:=[9]) (by simp) (Same.below hd)),h.apart,h.low.trans (Fr.of hd (mD hb h.low.size))⟩
theorem SndG.push {s:Bool} {base gx:Nat} {x:Scu.Net} {w Wd x4:World} {g o c k:Nat} {ms fs:List Scu.Message} {rv sv fv cv tv v4 lx:Value} {fss:List (List Value)} {ob:Obj} (hb:base<=w.heap.size) (h:SndG s base gx x w (.slice (some ⟨g,o,none⟩) ms.length c) ms k rv sv fv cv tv Wd) (Hs:g < Wd.heap.size)
 (Hp:k < ms.length) (hx:IsStrs Wd 0 lx ms[k].log) (Hk:Scu.sendAll x.flying (ms.take k)=fs) (hl:fs.length < 80) (Hl:OwnR 99 8 80 MsgE Wd base fv fs fss) (h4:x4.ownsRow base 99 8 v4 (fs.length+1) (fss.flatten ++ msgV ms[k] lx)) (hg:((Wd.alloc ob).drew).grownBy x4 fv.ownBlock)
 (hv:v4.ownBlock=fv.ownBlock\/v4.ownBlock=some (Wd.alloc ob).drew.heap.size) :
 SndG s base gx x w (.slice (some ⟨g,o,none⟩) ms.length c) ms (k+1) rv sv v4 cv tv (x4.setCell ⟨gx,2,none⟩ v4)/\x4.cell? ⟨gx,2,none⟩=some fv/\(∀ j,x4.frozen? ⟨gx,j,none⟩=false)/\gx < x4.heap.size:=by
 have hn:=h.net;rw [Hk] at hn;have Ha:base<=Wd.heap.size:=mD hb h.low.size;have Hc:=zIf hn Hl hx Ha (show (fs.length+1)*80<=R47 by unfold R47;omega) rfl h4 hg;refine ⟨?_,Hc.2⟩;have Hb:=(zAa Wd ob).drew;have Hm:=h.apart g rfl;have Hd:g≠gx:=fun e=>by
  obtain ⟨⟨A',c',css',e',_,He,Hf,Hg,Hq⟩,_⟩:=h.row;cases e'
  rcases Hg with h' | ⟨g',o',e'',_,hh,_⟩
  ·have:css'.flatten.length=0:=by rw [h'];rfl
   rw [zBo Hf,He] at this;omega
  cases e''
  rcases hh with hh | ⟨C,fz,hh⟩
  ·omega
  have Hn:=hn.box;unfold Blk at Hn;rw [e,Hn] at hh;cases s <;> cases hh
 have Ho:Same [NT s,9] 0 (Wd.alloc ob).drew x4:=Same.own (zAg Hl.row Hb) hg (mE _) (by cases s <;> decide);have Hh:=zAc (hn.below Hb).box Ho (by simp);refine ⟨by rw [zFs Hp,Hk,if_pos hl];exact Hc.1.1,?_,fun g' Hi e=>?_,h.low.trans Hc.1.2⟩
 ·have Hr:=h.row.same (Ts:=[9,99]) (by simp) (Same.below Hb) (fun _ _ h=>h.same (Ts:=[9]) (by simp) (Same.below Hb));refine Hr.at_block (by simpa [World.setCell] using hg.size) (fun g' Hi Hj=>?_) (fun _ _ h=>h.same (Ts:=[9]) (by simp) ((Ho.mono (by simp) (mC _)).trans (Same.set_ Hh (mE _) (by cases s <;> decide) 2 _)));cases Hi
  exact (Below.heap_setCell x4 ⟨gx,2,none⟩ _ g Hd).trans (hg.block g Hj (fun e=>Hm e.symm))
 cases Hi
 rcases hv with h' | h'
 ·rw [h'] at e;exact Hm e
 rw [h'] at e;have:=Hb.size;simp only [Option.some.injEq] at e
 omega
theorem zRx (A:Option Addr) (c:Nat) (ms:List Scu.Message) (w:World) (base gx:Nat) (x:Scu.Net) (rv sv fv cv tv:Value) (hN:NetW w base gx x rv sv fv cv tv) (hb:base<=w.heap.size) (hx:IsRow 99 8 80 MsgE w 0 (.slice A ms.length c) ms)
 (Hr:∀ g,(Value.slice A ms.length c).ownBlock=some g->fv.ownBlock≠some g) (Kc:x.flying.length<=80) :
 Calls Tryz.prog 81 #[.pointer (some ⟨gx,0,none⟩),.slice A ms.length c] w fun e w'=>e=.returned (.tuple #[])/\NetE w' base gx { x with flying:=Scu.sendAll x.flying ms }/\Fr base w w':=by
 have Kk:ms.length<=1759218604390:=by have:=hx.len;unfold R47 at this;omega
 have HI:=mA (show SndI base gx x w (.slice A ms.length c) ms 0 rv sv fv cv tv w from ⟨hN,hx,Hr,Fr.refl _ _⟩);have Kl:=hN.box.lt;clear hN hx Hr;go_enter Tryz.func81,Tryz.ntmps81
 go_wp2_with fail
 go_loopw [8] (fun i wr=>∃ (k:Nat) (rv sv fv cv tv:Value),k<=ms.length/\i=.int .i64 k/\SndI base gx x w (.slice A ms.length c) ms k rv sv fv cv tv wr) (fun i _=>ms.length - (intOf i).toNat)
 case atStart=>exact ⟨0,_,_,_,_,_,mE _,rfl,HI.out⟩
 case round =>
  obtain ⟨k,rv,sv,fv,cv,tv,hk,rfl,hI⟩:=hrel;have HR:=mA hI;clear hI;by_cases Hl:k < ms.length
  ·have Hm:(k:Int) < (ms.length:Int):=by omega
   obtain ⟨⟨A',c',css,e,_,Hs,Ht,Hu,Hv⟩,_⟩:=HR.out.row;obtain ⟨rfl,rfl⟩:A=A'/\c=c':=by cases e;exact ⟨rfl,rfl⟩
   obtain ⟨g,o,cs,rfl,Kd,Hn,Ha,lx,rfl,Hg⟩:=zHq Hs Ht (by decide) Hu Hv Hl;clear e Hs Ht Hu Hv Hn;obtain ⟨m,hm⟩:=mK (ms[k]);rw [hm] at Ha Hg;have c0:wr.cell? ⟨g,o+k*8,none⟩=some (.int .i64 m.kind):=Ha 0 _ rfl;have c1:wr.cell? ⟨g,o+k*8+1,none⟩=some (.int .i64 m.from_):=Ha 1 _ rfl;have c2:wr.cell? ⟨g,o+k*8+2,none⟩=some (.int .i64 m.tq):=Ha 2 _ rfl;have c3:wr.cell? ⟨g,o+k*8+3,none⟩=some (.int .i64 m.view):=Ha 3 _ rfl;have c4:wr.cell? ⟨g,o+k*8+4,none⟩=some (.int .i64 m.normal):=Ha 4 _ rfl;have c5:wr.cell? ⟨g,o+k*8+5,none⟩=some (.int .i64 m.commit):=Ha 5 _ rfl;have c6:wr.cell? ⟨g,o+k*8+6,none⟩=some (.int .i64 m.n):=Ha 6 _ rfl;have c7:wr.cell? ⟨g,o+k*8+7,none⟩=some lx:=Ha 7 _ rfl;obtain ⟨Al,nl,cl,rfl⟩:=Hg.form;have Ke:=mA Hg;have HM:=mA hm;clear Ha Hg hm;go_upto_region 3 with fail
   obtain ⟨Wd,Hh⟩:=mJ (wr.alloc (.cells #[.int .i64 m.kind,.int .i64 m.from_,.int .i64 m.tq,.int .i64 m.view,.int .i64 m.normal,.int .i64 m.commit,.int .i64 m.n,.slice Al nl cl] 99));rw [<- Hh];have Hi:Below wr.heap.size wr Wd:=by rw [Hh];exact zAa _ _
   have hn:Blk Wd wr.heap.size 99 #[.int .i64 m.kind,.int .i64 m.from_,.int .i64 m.tq,.int .i64 m.view,.int .i64 m.normal,.int .i64 m.commit,.int .i64 m.n,.slice Al nl cl]:=by rw [Hh];exact Blk.new _ _ _
   have Hj:=HR.out.below hb Hi;obtain ⟨fs,Hk⟩:=mK (Scu.sendAll x.flying (ms.take k));have Kf:fs.length<=80:=by rw [<- Hk];exact zEm _ _ Kc
   have Hb:=Hj.net;rw [Hk] at Hb;obtain ⟨B0,e0,B1,e1,Af,cf,B3,e3,B4,e4,rfl,rfl,rfl,rfl,rfl⟩:=Hb.forms;dsimp only at Hb Hj
   obtain ⟨fss,Ho⟩:=Hb.fly;dsimp only at Ho
   obtain ⟨-,-,d2⟩:=cz3 Hb.box;obtain ⟨q0,q1,q2,q3,q4,q5,q6,q7⟩:=cz8 hn;have dz:=Hb.box.frozen;have dl:=Hb.box.lt;have ql:=hn.lt;have Hp:=mA Hb;have Hw:=mA Ho;have Hc:=mA Hj;have Hx:=mA Hk;have HX:=mA (Ke.out.below Hi);have Kg:g < Wd.heap.size:=mF Kd Hi.size;have Hd:base<=Wd.heap.size:=mD hb Hc.out.low.size;clear Hh Hi hn Hj Hk Hb Ho c0 c1 c2 c3 c4 c5 c6 c7;by_cases hl:fs.length < 80
   ·have Kh:(fs.length:Int) < 80:=by omega
    have Ki:=mA (show base<=((Wd.alloc (.cells #[.int .i64 m.kind,.int .i64 m.from_,.int .i64 m.tq,.int .i64 m.view,.int .i64 m.normal,.int .i64 m.commit,.int .i64 m.n,.slice Al nl cl] 99)).drew).heap.size from mD Hd ((zAa Wd _).drew).size);have He:=mA (show fs.length+1<=maxLen/\(fs.length+1)*80<=140737488355328/\(fs.length+1)*80<=R47 from ⟨by unfold maxLen;omega,by omega,by unfold R47;omega⟩);go_wp2_with fail
    go_region_law (first
     | (refine zBq _ rfl (.tmp 22) (.tmp 24) 25 rfl zCr base (.slice Af fs.length cf) fs.length fss.flatten rfl ?_ (.slice (some ⟨Wd.heap.size,0,none⟩) 1 1) 1 (msgV m (.slice Al nl cl)) rfl ⟨rfl,.inr ⟨_,_,rfl,?_⟩⟩ ?_ ?_ ?_ ?_ ?_
        ·exact (zAg Hw.out.row (zAa Wd _).drew)
        ·exact zNx
        ·exact zNy
        ·exact He.out.1
        ·exact He.out.2.1
        ·exact Ki.out
        intro v4 x4 h4 Hy Hz;have Hf:=Hc.out.push hb Kg Hl (by rw [HM.out];exact HX.out) Hx.out hl Hw.out (by rw [HM.out];exact h4) Hy Hz;have g2:=Hf.2.1;have gz:=Hf.2.2.1;have gl:=Hf.2.2.2;obtain ⟨A9,c9,rfl,_,_,_,_⟩:=zAi h4;have Kj:=mA Hf.1;clear Hf h4 Hy Hz))
    all_goals
     clear g2 gz gl d2 dz dl ql q0 q1 q2 q3 q4 q5 q6 q7;go_wp2_with fail
     go_roundw
     case rel=>exact ⟨k+1,_,_,_,_,_,by omega,rfl,Kj.out⟩
     case measure=>simp only [intOf];omega
   have Kh:¬ (fs.length:Int) < 80:=by omega
   have Ka:SndI base gx x w (.slice (some ⟨g,o,none⟩) ms.length c) ms (k+1) _ _ (.slice Af fs.length cf) _ _ Wd :=
    ⟨by rw [zFs Hl,Hx.out,if_neg hl];exact Hp.out,Hc.out.row,Hc.out.apart,Hc.out.low⟩
   have Hq:=mA Ka;clear Ka;go_wp2_with fail
   go_roundw
   case rel=>exact ⟨k+1,_,_,_,_,_,by omega,rfl,Hq.out⟩
   case measure=>simp only [intOf];omega
  have Kb:k=ms.length:=by omega
  have Hm:¬ (k:Int) < (ms.length:Int):=by omega
  have HF:=mA (show NetE wr base gx { x with flying:=Scu.sendAll x.flying ms }/\Fr base w wr from by
   have:=HR.out.net;rw [Kb,List.take_length] at this;exact ⟨this.e,HR.out.low⟩)
  clear Kb;go_wp2
  go_end0
  exact ⟨rfl,HF.out⟩
end Go.Proofs.YtlngfbngnnepiaaGreat
