/- Small laws on memory, used by the walks of this seat. Data in memory: what cells read as, whatever the types; kept while the blocks that are read stay. The document's data, as plain data and in memory. Plain functions on the document's data, and its cells for a walk. The contract of publisherref04.Plain. Contracts of chars.Space, Digit, Letter, Lower: what they are of a code point. Contracts of attr.letter, inName, wordEnd, Name. The contract of publisherref04.Plain. -/
import Derived.Test.YtclikfjalmcoaaaGreatDoorProg
import Derived.BigQuiet
import Derived.Lib.Hide
import Derived.WalkLawsBesides
import Derived.Lib.Strings
import Derived.Test.YtclikfjalmcoaaaGreatDoorKPlFold
set_option maxHeartbeats 4000000
set_option maxRecDepth 100000
open Go.Lib (hid)
namespace Go.Proofs.YtclikfjalmcoaaaGreatDoor
open Bool renaming eq_iff_iff->jh5
open Nat renaming zero_le->jhq
open Go renaming World->jk3,Value->jk5
open Go.RowKit
theorem q22 {B:Nat} {e:TypeId} {k:Nat} {v:jk5} {n:Nat} {xs:List jk5} {w w':jk3} (h:w.ownsRow B e k v n xs) (hb:Below w.heap.size w w'):w'.ownsRow B e k v n xs:=
 h.kept (row:=none) ⟨hb.os,hb.tape,hb.output,hb.size,fun i hi _=>hb.block i hi⟩ (by cases v.ownBlock<;>simp)
theorem below_app {B:Nat} {w wr w1:jk3} {e:TypeId} {k:Nat} {v:jk5} {n:Nat} {xs:List jk5} {o:Obj} (hbel:Below B w wr) (hB:B<=wr.heap.size) (hown:wr.ownsRow B e k v n xs) (hg:(wr.alloc o).grownBy w1 v.ownBlock):Below B w w1:=
 (hbel.alloc hB o).grown hg (by simp;omega) (fun j hj=>(hown.lt j hj).1)
theorem eD {B:Nat} {a w:jk3} (h:Below B a w) (q:Nat):Below B a (w.drewN q):=⟨h.os,h.tape,h.output,h.size,h.block⟩
theorem aM {w wr w1:jk3} (h:Below w.heap.size w wr) (h1:Below wr.heap.size wr w1):Below w.heap.size w w1:=h.trans (h1.mono h.size)
theorem GN (w:jk3) (cs:List jk5) (T:TypeId):∀ j u,cs[j]?=some u->(w.alloc (.cells cs.toArray T)).cell? ((⟨w.heap.size,0,none⟩:Addr).add j)=some u:=by
 intro j u h;have e:((⟨w.heap.size,0,none⟩:Addr).add j)=⟨w.heap.size,j,none⟩:=by unfold Addr.add;split<;>simp_all
 rw [e];have hb:(w.alloc (.cells cs.toArray T)).heap[w.heap.size]?=some (.cells cs.toArray T):=by show (w.heap.push _)[w.heap.size]?=_;simp
 simp only [World.cell?,hb];simpa using h
theorem Cv (w:jk3) (v:jk5) (T:TypeId):∀ j u,[v][j]?=some u->(w.alloc (.cells #[v] T)).cell? ((⟨w.heap.size,0,none⟩:Addr).add j)=some u:=GN w [v] T
theorem ED {w:jk3} {B B':Nat} {e:TypeId} {k:Nat} {v:jk5} {n:Nat} {xs:List jk5} (h:w.ownsRow B e k v n xs) (hb:B'<=B):w.ownsRow B' e k v n xs:=by
 obtain ⟨h1,h2⟩:=h;refine ⟨h1,?_⟩;rcases h2 with h2 | ⟨g,cap,cur,r1,r2,r3⟩
 ·exact .inl h2
 ·exact .inr ⟨g,cap,cur,r1,Nat.le_trans hb r2,r3⟩
theorem fD {w:jk3} {B:Nat} {e:TypeId} {k:Nat} {v:jk5} {n:Nat} {xs:List jk5} (h:w.ownsRow B e k v n xs) (hn:0<n):∃ g cap,v=.slice (some ⟨g,0,none⟩) n cap/\n<=cap:=by
 rcases h.2 with ⟨_,h2⟩ | ⟨g,cap,cur,r1,r2,r3,r4,_⟩
 ·omega
 ·exact ⟨g,cap,r1,r4⟩
theorem EH {a b c:jk3} {row:Option Nat} (h:a.grownBy b row) (k:b.grownBy c row):a.grownBy c row:=
 ⟨k.os.trans h.os,k.tape.trans h.tape,k.output.trans h.output,Nat.le_trans h.size k.size,fun i hi hr=>(k.block i (Nat.lt_of_lt_of_le hi h.size) hr).trans (h.block i hi hr)⟩
theorem Ij {a b:jk3} {row:Option Nat} (h:a.grownBy b row):a.grownBy b.drew row:=⟨h.os,h.tape,h.output,h.size,h.block⟩
theorem mJ {w:jk3} {b o:Nat} {v:jk5} (h:w.cell? ⟨b,o,none⟩=some v):b<w.heap.size:=by
 refine Nat.lt_of_not_le fun hle=>?_
 have:w.heap[b]?=none:=by rw [Array.getElem?_eq_none_iff];exact hle
 simp [World.cell?,this] at h
theorem past {w:jk3} {b off:Nat} {v:jk5} (h:w.cell? ⟨b,off,none⟩=some v) (o:Obj):(w.alloc o).cell? ⟨b,off,none⟩=some v:=
 (World.cell?_of_block (w:=w) (a:=⟨b,off,none⟩) (Below.heap_alloc w o b (mJ h))).trans h
def EF (w:jk3) (k:Nat) (v:jk5) (n:Nat) (xs:List jk5):Prop:=
 xs.length=n*k/\∃ a cap,v=.slice a n cap/\n<=cap/\cap<=maxLen/\(n=0\/∃ b off,a=some ⟨b,off,none⟩/\∀ j u,xs[j]?=some u->w.cell? ⟨b,off+j,none⟩=some u)
theorem EF.BG {w:jk3} {B:Nat} {e:TypeId} {k:Nat} {v:jk5} {n:Nat} {xs:List jk5} (h:w.ownsRow B e k v n xs):EF w k v n xs:=by
 obtain ⟨h1,h2⟩:=h;refine ⟨h1,?_⟩;rcases h2 with ⟨rfl,rfl⟩ | ⟨g,cap,cur,rfl,hg,hb,hn,hm,hcs,hx⟩
 ·exact ⟨none,0,rfl,Nat.le_refl _,jhq _,.inl rfl⟩
 ·refine ⟨_,cap,rfl,hn,hm,.inr ⟨g,0,rfl,fun j u hu=>?_⟩⟩;have hown:w.ownsRow B e k (.slice (some ⟨g,0,none⟩) n cap) n xs:=⟨h1,.inr ⟨g,cap,cur,rfl,hg,hb,hn,hm,hcs,hx⟩⟩;have:=hown.cells rfl j u hu;rw [Nat.zero_add];rw [<- this];congr 1;unfold Addr.add;split<;>simp_all
open Go.RowKit
inductive D where
 | int (k:IntKind) (n:Int)
 | bool (b:Bool)
 | str (s:ByteArray)
 | st (fs:List D)
 | sl (k:Nat) (l:List D)
mutual
def Rd (ok:Nat->Prop) (w:jk3):D->List jk5->Prop
 | .int k n,cs=>cs=[.int k n]
 | .bool b,cs=>cs=[.bool b]
 | .str s,cs=>cs=[.string s]
 | .st fs,cs=>∃ rows,aP ok w fs rows/\cs=rows.flatten
 | .sl k l,cs=>∃ a cap rows,cs=[.slice a l.length cap]/\l.length<=cap/\cap<=maxLen/\aP ok w l rows/\(∀ r∈rows,r.length=k) /\
   (l.length=0\/∃ b off,a=some ⟨b,off,none⟩/\ok b/\b<w.heap.size/\∀ j u,rows.flatten[j]?=some u->w.cell? ⟨b,off+j,none⟩=some u)
def aP (ok:Nat->Prop) (w:jk3):List D->List (List jk5)->Prop
 | [],rows=>rows=[]
 | d::ds,rows=>∃ r rs,rows=r::rs/\Rd ok w d r/\aP ok w ds rs
end
theorem gy {w w':jk3} {b:Nat} (h:w'.heap[b]?=w.heap[b]?) (o:Nat):w'.cell? ⟨b,o,none⟩=w.cell? ⟨b,o,none⟩:=World.cell?_of_block (a:=⟨b,o,none⟩) h
theorem Jo {w w':jk3} {b:Nat} (h:w'.heap[b]?=w.heap[b]?) (hb:b<w.heap.size):b<w'.heap.size:=by rw [Array.getElem?_eq_getElem hb] at h;exact (Array.getElem?_eq_some_iff.1 h).1
theorem q0u {w w':jk3} {row:Option Nat} {b o:Nat} {v:jk5} (hg:w.grownBy w' row) (hc:w.cell? ⟨b,o,none⟩=some v) (hne:row≠some b):w'.cell? ⟨b,o,none⟩=some v:=by rw [gy (hg.block b (mJ hc) (fun e=>hne e.symm))];exact hc
theorem BK (w:jk3) (cs:List jk5) (T:TypeId) (j:Nat) (u:jk5) (h:cs[j]?=some u):(w.alloc (.cells cs.toArray T)).cell? ⟨w.heap.size,j,none⟩=some u:=by
 have:=GN w cs T j u h;have e:((⟨w.heap.size,0,none⟩:Addr).add j)=⟨w.heap.size,j,none⟩:=by unfold Addr.add;split<;>simp_all
 rwa [e] at this
theorem own_ne {w:jk3} {B:Nat} {e:TypeId} {k:Nat} {v:jk5} {n:Nat} {xs:List jk5} {b:Nat} (h:w.ownsRow B e k v n xs) (hb:w.heap.size<=b):v.ownBlock≠some b:=fun e'=>by
 have:=(h.lt b e').2;omega
def wM (ok ok':Nat->Prop) (w w':jk3):Prop:=∀ b,ok b->b<w.heap.size->ok' b/\w'.heap[b]?=w.heap[b]?
mutual
theorem Rd.keep {ok ok':Nat->Prop} {w w':jk3} (hs:wM ok ok' w w'):∀ (d:D) (cs:List jk5),Rd ok w d cs->Rd ok' w' d cs
 | .int _ _,_,h=>by unfold Rd at h ⊢;exact h
 | .bool _,_,h=>by unfold Rd at h ⊢;exact h
 | .str _,_,h=>by unfold Rd at h ⊢;exact h
 | .st fs,_,h=>by
  unfold Rd at h ⊢;obtain ⟨rows,hr,hc⟩:=h;exact ⟨rows,aP.keep hs fs rows hr,hc⟩
 | .sl k l,_,h=>by
  unfold Rd at h ⊢;obtain ⟨a,cap,rows,h1,h2,h3,h4,h5,h6⟩:=h;have h4':=aP.keep hs l rows h4;refine ⟨a,cap,rows,h1,h2,h3,h4',h5,?_⟩;rcases h6 with h6 | ⟨b,off,h7,h8,hb,h9⟩
  ·exact .inl h6
  ·obtain ⟨k1,k2⟩:=hs b h8 hb;refine .inr ⟨b,off,h7,k1,Jo k2 hb,fun j u hu=>by rw [gy k2];exact h9 j u hu⟩
theorem aP.keep {ok ok':Nat->Prop} {w w':jk3} (hs:wM ok ok' w w'):∀ (l:List D) (rows:List (List jk5)),aP ok w l rows->aP ok' w' l rows
 | [],_,h=>by unfold aP at h ⊢;exact h
 | d::ds,_,h=>by
  unfold aP at h ⊢;obtain ⟨r,rs,h1,h2,h3⟩:=h;exact ⟨r,rs,h1,Rd.keep hs d r h2,aP.keep hs ds rs h3⟩
end
theorem aP.len {ok:Nat->Prop} {w:jk3}:∀ {l:List D} {rows:List (List jk5)},aP ok w l rows->rows.length=l.length
 | [],_,h=>by unfold aP at h;simp [h]
 | d::ds,_,h=>by
  unfold aP at h;obtain ⟨r,rs,rfl,_,h3⟩:=h;simp [aP.len h3]
theorem aP.get {ok:Nat->Prop} {w:jk3}:∀ {l:List D} {rows:List (List jk5)},aP ok w l rows->∀ (i:Nat) (d:D),l[i]?=some d->∃ r,rows[i]?=some r/\Rd ok w d r
 | [],_,h,i,d,hd=>by simp at hd
 | x::xs,_,h,i,d,hd=>by
  unfold aP at h;obtain ⟨r,rs,rfl,h2,h3⟩:=h;cases i with
  | zero=>simp at hd;subst hd;exact ⟨r,rfl,h2⟩
  | succ i=>simp at hd;obtain ⟨r',h4,h5⟩:=aP.get h3 i d hd;exact ⟨r',by simpa using h4,h5⟩
theorem aP.app {ok:Nat->Prop} {w:jk3}:∀ {l m:List D} {rows rows':List (List jk5)},aP ok w l rows->aP ok w m rows'->aP ok w (l++m) (rows++rows')
 | [],_,_,_,h,h'=>by unfold aP at h;subst h;exact h'
 | d::ds,_,_,_,h,h'=>by
  unfold aP at h;obtain ⟨r,rs,rfl,h2,h3⟩:=h;show aP ok w (d::(ds++_)) _;unfold aP;exact ⟨r,rs++_,rfl,h2,aP.app h3 h'⟩
theorem aP.one {ok:Nat->Prop} {w:jk3} {d:D} {r:List jk5} (h:Rd ok w d r):aP ok w [d] [r]:=by unfold aP;exact ⟨r,[],rfl,h,by unfold aP;rfl⟩
theorem aP.none {ok:Nat->Prop} {w:jk3}:aP ok w [] []:=by unfold aP;rfl
theorem aP.cons {ok:Nat->Prop} {w:jk3} {d:D} {ds:List D} {r:List jk5} {rs:List (List jk5)} (h:Rd ok w d r) (hs:aP ok w ds rs):aP ok w (d::ds) (r::rs):=by unfold aP;exact ⟨r,rs,rfl,h,hs⟩
theorem iJ (k:Nat):∀ (rows:List (List jk5)),(∀ r∈rows,r.length=k)->rows.flatten.length=rows.length*k
 | [],_=>by simp
 | r::rs,h=>by
  rw [List.flatten_cons,List.length_append,iJ k rs (fun x hx=>h x (by simp [hx])),h r (by simp),List.length_cons,Nat.add_mul];omega
theorem OT (k:Nat):∀ (rows:List (List jk5)),(∀ r∈rows,r.length=k)->∀ (i j:Nat) (r:List jk5) (u:jk5),rows[i]?=some r->r[j]?=some u->rows.flatten[i*k+j]?=some u
 | [],_,i,j,r,u,h1,_=>by simp at h1
 | x::xs,h,i,j,r,u,h1,h2=>by
  have hx:=h x (by simp);rw [List.flatten_cons];cases i with
  | zero=>
   simp at h1;subst h1;have hj:j<x.length:=(List.getElem?_eq_some_iff.1 h2).1;rw [List.getElem?_append_left (by omega)];simpa using h2
  | succ i=>
   rw [List.getElem?_append_right (by rw [hx,Nat.add_mul];omega)];have e:(i+1)*k+j-x.length=i*k+j:=by rw [hx,Nat.add_mul];omega
   rw [e];exact OT k xs (fun y hy=>h y (by simp [hy])) i j r u (by simpa using h1) h2
structure qI (ok:Nat->Prop) (w:jk3) (k:Nat) (l:List D) (a:Option Addr) (cap:Nat):Prop where
 le:l.length<=cap
 max:cap<=maxLen
 at_:0<l.length->∃ b off,a=some ⟨b,off,none⟩/\ok b/\b<w.heap.size/\∀ i d,l[i]?=some d->∃ r,Rd ok w d r/\r.length=k/\∀ j u,r[j]?=some u->w.cell? ⟨b,off+(i*k+j),none⟩=some u
theorem Rd.aB {ok:Nat->Prop} {w:jk3} {k:Nat} {l:List D} {cs:List jk5} (h:Rd ok w (.sl k l) cs):∃ a cap,cs=[.slice a l.length cap]/\qI ok w k l a cap:=by
 unfold Rd at h;obtain ⟨a,cap,rows,h1,h2,h3,h4,h5,h6⟩:=h;refine ⟨a,cap,h1,h2,h3,fun hp=>?_⟩;rcases h6 with h6 | ⟨b,off,h7,h8,hb,h9⟩
 ·omega
 ·refine ⟨b,off,h7,h8,hb,fun i d hd=>?_⟩;obtain ⟨r,hr,hrd⟩:=h4.get i d hd;exact ⟨r,hrd,h5 r (List.mem_of_getElem? hr),fun j u hu=>h9 _ u (OT k rows h5 i j r u hr hu)⟩
theorem Rd.mq {ok:Nat->Prop} {w:jk3} {fs:List D} {cs:List jk5} (h:Rd ok w (.st fs) cs):∃ rows,aP ok w fs rows/\cs=rows.flatten:=by unfold Rd at h;exact h
theorem Rd.A9 {ok:Nat->Prop} {w:jk3} {fs:List D} {rows:List (List jk5)} (h:aP ok w fs rows):Rd ok w (.st fs) rows.flatten:=by unfold Rd;exact ⟨rows,h,rfl⟩
theorem aP.aJ {ok:Nat->Prop} {w:jk3} {d:D} {ds:List D} {rows:List (List jk5)} (h:aP ok w (d::ds) rows):∃ r rs,rows=r::rs/\Rd ok w d r/\aP ok w ds rs:=by unfold aP at h;exact h
theorem aP.dX {ok:Nat->Prop} {w:jk3} {rows:List (List jk5)} (h:aP ok w [] rows):rows=[]:=by unfold aP at h;exact h
theorem Rd.rO {ok:Nat->Prop} {w:jk3} {k:IntKind} {n:Int} {cs:List jk5} (h:Rd ok w (.int k n) cs):cs=[.int k n]:=by unfold Rd at h;exact h
theorem Rd.A8 {ok:Nat->Prop} {w:jk3} {b:Bool} {cs:List jk5} (h:Rd ok w (.bool b) cs):cs=[.bool b]:=by unfold Rd at h;exact h
theorem Rd.bJ {ok:Nat->Prop} {w:jk3} {s:ByteArray} {cs:List jk5} (h:Rd ok w (.str s) cs):cs=[.string s]:=by unfold Rd at h;exact h
theorem Rd.IW (ok:Nat->Prop) (w:jk3) (k:IntKind) (n:Int):Rd ok w (.int k n) [.int k n]:=by unfold Rd;rfl
theorem Rd.Sd (ok:Nat->Prop) (w:jk3) (b:Bool):Rd ok w (.bool b) [.bool b]:=by unfold Rd;rfl
theorem Rd.eu (ok:Nat->Prop) (w:jk3) (s:ByteArray):Rd ok w (.str s) [.string s]:=by unfold Rd;rfl
theorem Rd.ay (ok:Nat->Prop) (w:jk3) (k:Nat):Rd ok w (.sl k []) [.slice none 0 0]:=by unfold Rd;exact ⟨none,0,[],rfl,Nat.le_refl _,jhq _,aP.none,by simp,.inl rfl⟩
theorem Rd.ig {ok:Nat->Prop} {w:jk3} {B:Nat} {e:TypeId} {k:Nat} {l:List D} {v:jk5} {rows:List (List jk5)} (ho:w.ownsRow B e k v l.length rows.flatten) (h:aP ok w l rows) (hk:∀ r∈rows,r.length=k) (hok:∀ g,v.ownBlock=some g->ok g):Rd ok w (.sl k l) [v]:=by
 have hlt:=ho.lt;have hcl:∀ g cap,v=.slice (some ⟨g,0,none⟩) l.length cap->∀ j u,rows.flatten[j]?=some u->w.cell? ⟨g,0+j,none⟩=some u:=by rintro g cap rfl j u hu;rw [Nat.zero_add,<- ho.cells rfl j u hu];congr 1;unfold Addr.add;split<;>simp_all
 obtain ⟨h1,h2⟩:=ho;rcases h2 with ⟨rfl,hx⟩ | ⟨g,cap,cur,rfl,hg,hb,hn,hm,hcs,hx⟩
 ·unfold Rd;exact ⟨none,0,rows,by rw [hx],by omega,jhq _,h,hk,.inl hx⟩
 ·unfold Rd;exact ⟨_,cap,rows,rfl,hn,hm,h,hk,.inr ⟨g,0,rfl,hok g rfl,(hlt g rfl).2,hcl g cap rfl⟩⟩
def ko (l:List ByteArray):D:=.sl 1 (l.map D.str)
theorem aP.strs {ok:Nat->Prop} {w:jk3}:∀ (l:List ByteArray),aP ok w (l.map D.str) (l.map fun s=>[Value.string s])
 | []=>aP.none
 | s::l=>aP.cons (Rd.eu ok w s) (aP.strs l)
theorem oM:∀ (l:List ByteArray),(l.map fun s=>[Value.string s]).flatten=l.map Value.string
 | []=>rfl
 | s::l=>by simp [List.flatten_cons,oM l]
theorem aP.oJ {ok:Nat->Prop} {w:jk3}:∀ (l:List ByteArray) (rows:List (List jk5)),aP ok w (l.map D.str) rows->rows=l.map fun s=>[Value.string s]
 | [],_,h=>by exact h.dX
 | s::l,_,h=>by
  obtain ⟨r,rs,rfl,h1,h2⟩:=h.aJ;rw [h1.bJ,aP.oJ l rs h2];rfl
theorem Rd.Ng {ok:Nat->Prop} {w:jk3} {B:Nat} {e:TypeId} {l:List ByteArray} {v:jk5} (ho:w.ownsRow B e 1 v l.length (l.map Value.string)) (hok:∀ g,v.ownBlock=some g->ok g):Rd ok w (ko l) [v]:=by refine Rd.ig (rows:=l.map fun s=>[Value.string s]) (B:=B) (e:=e) ?_ (aP.strs l) (by simp) hok;rw [oM,List.length_map];exact ho
open Go.RowKit
structure Pr where
 key:ByteArray
 val:ByteArray
deriving DecidableEq
structure Ci where
 key:ByteArray
 pre:ByteArray
 suf:ByteArray
 bare:Bool
deriving DecidableEq
structure At where
 id:ByteArray
 cls:List ByteArray
 aF:List Pr
deriving DecidableEq
inductive aj where
 | mk (kind:Int) (text dest title:ByteArray) (at_:At) (args:List ByteArray) (bg:List Ci) (kids:List aj)
inductive au where
 | mk (kind level:Int) (info text dest title:ByteArray) (at_:At) (line:List aj) (kids:List au)
def Pr.d (p:Pr):D:=.st [.str p.key,.str p.val]
def Ci.d (c:Ci):D:=.st [.str c.key,.str c.pre,.str c.suf,.bool c.bare]
def At.ds (a:At):List D:=[.str a.id,ko a.cls,.sl 2 (a.aF.map Pr.d)]
mutual
def aj.d:aj->D
 | .mk k t d ti a ar ci ks=>.st [.int .i64 k,.str t,.str d,.str ti,.st a.ds,ko ar,.sl 4 (ci.map Ci.d),.sl 10 (aj.dl ks)]
def aj.dl:List aj->List D
 | []=>[]
 | x::l=>x.d::aj.dl l
end
theorem aj.jN:∀ (l:List aj),aj.dl l=l.map aj.d
 | []=>by unfold aj.dl;rfl
 | x::l=>by rw [aj.dl,aj.jN l];rfl
mutual
def au.d:au->D
 | .mk k lv i t d ti a li ks=>.st [.int .i64 k,.int .i64 lv,.str i,.str t,.str d,.str ti,.st a.ds,.sl 10 (li.map aj.d),.sl 11 (au.dl ks)]
def au.dl:List au->List D
 | []=>[]
 | x::l=>x.d::au.dl l
end
theorem au.jN:∀ (l:List au),au.dl l=l.map au.d
 | []=>by unfold au.dl;rfl
 | x::l=>by rw [au.dl,au.jN l];rfl
def bC (l:List aj):D:=.sl 10 (l.map aj.d)
def dS (l:List au):D:=.sl 11 (l.map au.d)
def cZ (l:List Pr):D:=.sl 2 (l.map Pr.d)
def KF (l:List Ci):D:=.sl 4 (l.map Ci.d)
variable {ok:Nat->Prop} {w:jk3}
theorem Pr.open_ {p:Pr} {cs:List jk5} (h:Rd ok w p.d cs):cs=[.string p.key,.string p.val]:=by unfold Pr.d at h;obtain ⟨_,g0,rfl⟩:=h.mq;obtain ⟨_,_,rfl,h1,g1⟩:=g0.aJ;obtain ⟨_,_,rfl,h2,g2⟩:=g1.aJ;obtain rfl:=g2.dX;obtain rfl:=h1.bJ;obtain rfl:=h2.bJ;rfl
theorem Ci.open_ {p:Ci} {cs:List jk5} (h:Rd ok w p.d cs):cs=[.string p.key,.string p.pre,.string p.suf,.bool p.bare]:=by unfold Ci.d at h;obtain ⟨_,g0,rfl⟩:=h.mq;obtain ⟨_,_,rfl,h1,g1⟩:=g0.aJ;obtain ⟨_,_,rfl,h2,g2⟩:=g1.aJ;obtain ⟨_,_,rfl,h3,g3⟩:=g2.aJ;obtain ⟨_,_,rfl,h4,g4⟩:=g3.aJ;obtain rfl:=g4.dX;obtain rfl:=h1.bJ;obtain rfl:=h2.bJ;obtain rfl:=h3.bJ;obtain rfl:=h4.A8;rfl
theorem Pr.fJ (ok:Nat->Prop) (w:jk3) (p:Pr):Rd ok w p.d [.string p.key,.string p.val]:=
 Rd.A9 (rows:=[[.string p.key],[.string p.val]]) (.cons (Rd.eu _ _ _) (.cons (Rd.eu _ _ _) .none))
theorem Ci.fJ (ok:Nat->Prop) (w:jk3) (p:Ci):Rd ok w p.d [.string p.key,.string p.pre,.string p.suf,.bool p.bare]:=
 Rd.A9 (rows:=[[.string p.key],[.string p.pre],[.string p.suf],[.bool p.bare]]) (.cons (Rd.eu _ _ _) (.cons (Rd.eu _ _ _) (.cons (Rd.eu _ _ _) (.cons (Rd.Sd _ _ _) .none))))
theorem Rd.qF {k:Nat} {l:List D} {cs:List jk5} (h:Rd ok w (.sl k l) cs):∃ v,cs=[v]/\Rd ok w (.sl k l) [v]:=by obtain ⟨a,cap,rfl,_⟩:=h.aB;exact ⟨_,rfl,h⟩
structure AtR (ok:Nat->Prop) (w:jk3) (a:At) (vc vp:jk5):Prop where
 cls:Rd ok w (ko a.cls) [vc]
 aF:Rd ok w (cZ a.aF) [vp]
theorem At.open_ {a:At} {cs:List jk5} (h:Rd ok w (.st a.ds) cs):∃ vc vp,cs=[.string a.id,vc,vp]/\AtR ok w a vc vp:=by unfold At.ds at h;obtain ⟨_,g0,rfl⟩:=h.mq;obtain ⟨_,_,rfl,h1,g1⟩:=g0.aJ;obtain ⟨_,_,rfl,h2,g2⟩:=g1.aJ;obtain ⟨_,_,rfl,h3,g3⟩:=g2.aJ;obtain ⟨vc,rfl,h2⟩:=Rd.qF h2;obtain ⟨vp,rfl,h3⟩:=Rd.qF h3;obtain rfl:=g3.dX;obtain rfl:=h1.bJ;exact ⟨vc,vp,rfl,h2,h3⟩
theorem At.fJ {a:At} {vc vp:jk5} (h:AtR ok w a vc vp):Rd ok w (.st a.ds) [.string a.id,vc,vp]:=
 Rd.A9 (rows:=[[.string a.id],[vc],[vp]]) (.cons (Rd.eu _ _ _) (.cons h.cls (.cons h.aF .none)))
structure dQ (ok:Nat->Prop) (w:jk3) (at_:At) (args:List ByteArray) (bg:List Ci) (kids:List aj) (vc vp va vi vk:jk5):Prop where
 at_:AtR ok w at_ vc vp
 args:Rd ok w (ko args) [va]
 bg:Rd ok w (KF bg) [vi]
 kids:Rd ok w (bC kids) [vk]
theorem aj.open_ {k:Int} {t d ti:ByteArray} {a:At} {ar:List ByteArray} {ci:List Ci} {ks:List aj} {cs:List jk5} (h:Rd ok w (aj.mk k t d ti a ar ci ks).d cs) : ∃ vc vp va vi vk,cs=[.int .i64 k,.string t,.string d,.string ti,.string a.id,vc,vp,va,vi,vk]/\dQ ok w a ar ci ks vc vp va vi vk:=by unfold aj.d at h;obtain ⟨_,g0,rfl⟩:=h.mq;obtain ⟨_,_,rfl,h1,g1⟩:=g0.aJ;obtain ⟨_,_,rfl,h2,g2⟩:=g1.aJ;obtain ⟨_,_,rfl,h3,g3⟩:=g2.aJ;obtain ⟨_,_,rfl,h4,g4⟩:=g3.aJ;obtain ⟨_,_,rfl,h5,g5⟩:=g4.aJ;obtain ⟨_,_,rfl,h6,g6⟩:=g5.aJ;obtain ⟨_,_,rfl,h7,g7⟩:=g6.aJ;obtain ⟨_,_,rfl,h8,g8⟩:=g7.aJ;obtain ⟨vc,vp,rfl,ha⟩:=At.open_ h5;obtain ⟨va,rfl,h6⟩:=Rd.qF h6;obtain ⟨vi,rfl,h7⟩:=Rd.qF h7;obtain ⟨vk,rfl,h8⟩:=Rd.qF h8;rw [aj.jN] at h8;obtain rfl:=g8.dX;obtain rfl:=h1.rO;obtain rfl:=h2.bJ;obtain rfl:=h3.bJ;obtain rfl:=h4.bJ;exact ⟨vc,vp,va,vi,vk,rfl,ha,h6,h7,h8⟩
theorem aj.fJ (k:Int) (t d ti:ByteArray) {a:At} {ar:List ByteArray} {ci:List Ci} {ks:List aj} {vc vp va vi vk:jk5} (h:dQ ok w a ar ci ks vc vp va vi vk) : Rd ok w (aj.mk k t d ti a ar ci ks).d [.int .i64 k,.string t,.string d,.string ti,.string a.id,vc,vp,va,vi,vk]:=by
 unfold aj.d;rw [aj.jN];exact Rd.A9 (rows:=[[.int .i64 k],[.string t],[.string d],[.string ti],[.string a.id,vc,vp],[va],[vi],[vk]])
  (.cons (Rd.IW _ _ _ _) (.cons (Rd.eu _ _ _) (.cons (Rd.eu _ _ _) (.cons (Rd.eu _ _ _) (.cons (At.fJ h.at_) (.cons h.args (.cons h.bg (.cons h.kids .none))))))))
structure je (ok:Nat->Prop) (w:jk3) (at_:At) (line:List aj) (kids:List au) (vc vp vl vk:jk5):Prop where
 at_:AtR ok w at_ vc vp
 line:Rd ok w (bC line) [vl]
 kids:Rd ok w (dS kids) [vk]
theorem au.open_ {k lv:Int} {i t d ti:ByteArray} {a:At} {li:List aj} {ks:List au} {cs:List jk5} (h:Rd ok w (au.mk k lv i t d ti a li ks).d cs) : ∃ vc vp vl vk,cs=[.int .i64 k,.int .i64 lv,.string i,.string t,.string d,.string ti,.string a.id,vc,vp,vl,vk]/\je ok w a li ks vc vp vl vk:=by unfold au.d at h;obtain ⟨_,g0,rfl⟩:=h.mq;obtain ⟨_,_,rfl,h1,g1⟩:=g0.aJ;obtain ⟨_,_,rfl,h2,g2⟩:=g1.aJ;obtain ⟨_,_,rfl,h3,g3⟩:=g2.aJ;obtain ⟨_,_,rfl,h4,g4⟩:=g3.aJ;obtain ⟨_,_,rfl,h5,g5⟩:=g4.aJ;obtain ⟨_,_,rfl,h6,g6⟩:=g5.aJ;obtain ⟨_,_,rfl,h7,g7⟩:=g6.aJ;obtain ⟨_,_,rfl,h8,g8⟩:=g7.aJ;obtain ⟨_,_,rfl,h9,g9⟩:=g8.aJ;obtain ⟨vc,vp,rfl,ha⟩:=At.open_ h7;obtain ⟨vl,rfl,h8⟩:=Rd.qF h8;obtain ⟨vk,rfl,h9⟩:=Rd.qF h9;rw [au.jN] at h9;obtain rfl:=g9.dX;obtain rfl:=h1.rO;obtain rfl:=h2.rO;obtain rfl:=h3.bJ;obtain rfl:=h4.bJ;obtain rfl:=h5.bJ;obtain rfl:=h6.bJ;exact ⟨vc,vp,vl,vk,rfl,ha,h8,h9⟩
theorem au.fJ (k lv:Int) (i t d ti:ByteArray) {a:At} {li:List aj} {ks:List au} {vc vp vl vk:jk5} (h:je ok w a li ks vc vp vl vk) : Rd ok w (au.mk k lv i t d ti a li ks).d [.int .i64 k,.int .i64 lv,.string i,.string t,.string d,.string ti,.string a.id,vc,vp,vl,vk]:=by
 unfold au.d;rw [au.jN];exact Rd.A9 (rows:=[[.int .i64 k],[.int .i64 lv],[.string i],[.string t],[.string d],[.string ti],[.string a.id,vc,vp],[vl],[vk]])
  (.cons (Rd.IW _ _ _ _) (.cons (Rd.IW _ _ _ _) (.cons (Rd.eu _ _ _) (.cons (Rd.eu _ _ _) (.cons (Rd.eu _ _ _) (.cons (Rd.eu _ _ _) (.cons (At.fJ h.at_) (.cons h.line (.cons h.kids .none)))))))))
open Go.RowKit
mutual
def aj.sz:aj->Nat
 | .mk _ _ _ _ _ _ _ ks=>1+aj.aZ ks
def aj.aZ:List aj->Nat
 | []=>0
 | x::l=>x.sz+aj.aZ l
end
mutual
def au.sz:au->Nat
 | .mk _ _ _ _ _ _ _ _ ks=>1+au.aZ ks
def au.aZ:List au->Nat
 | []=>0
 | x::l=>x.sz+au.aZ l
end
theorem aj.bE:∀ (l:List aj) (k:Nat) (x:aj),l[k]?=some x->x.sz<=aj.aZ l
 | [],_,_,h=>by simp at h
 | y::l,0,x,h=>by simp at h;subst h;rw [aj.aZ];omega
 | y::l,k+1,x,h=>by
  have:=aj.bE l k x (by simpa using h);rw [aj.aZ];omega
theorem au.bE:∀ (l:List au) (k:Nat) (x:au),l[k]?=some x->x.sz<=au.aZ l
 | [],_,_,h=>by simp at h
 | y::l,0,x,h=>by simp at h;subst h;rw [au.aZ];omega
 | y::l,k+1,x,h=>by
  have:=au.bE l k x (by simpa using h);rw [au.aZ];omega
mutual
def aj.plain:aj->List UInt8
 | .mk k t d _ _ _ _ ks=>
  if k=1\/k=4\/k=5 then t.data.toList else if k=2\/k=3 then [32]
  else if k=6\/k=7\/k=8\/k=9\/k=10\/k=11 then aj.aD ks else if k=16 then d.data.toList else []
def aj.aD:List aj->List UInt8
 | []=>[]
 | x::l=>x.plain++aj.aD l
end
theorem aj.yH (l m:List aj):aj.aD (l++m)=aj.aD l++aj.aD m:=by
 induction l with
 | nil=>rw [aj.aD];rfl
 | cons x l ih=>rw [List.cons_append,aj.aD,aj.aD,ih,List.append_assoc]
theorem aj.ny (l:List aj) (k:Nat) (x:aj) (h:l[k]?=some x):aj.aD (l.take (k+1))=aj.aD (l.take k)++x.plain:=by rw [List.take_add_one,h,aj.yH];simp [aj.aD]
theorem aj.LM (l:List aj) (k:Nat):(aj.aD (l.take k)).length<=(aj.aD l).length:=by have h:l=l.take k++l.drop k:=(List.take_append_drop k l).symm;have:=congrArg (fun l=>(aj.aD l).length) h;rw [aj.yH] at this;simp at this;omega
theorem aj.DX (l:List aj) (k:Nat) (x:aj) (h:l[k]?=some x):(aj.aD (l.take k)).length+x.plain.length<=(aj.aD l).length:=by have h1:=aj.LM l (k+1);rw [aj.ny l k x h,List.length_append] at h1;exact h1
variable {ok:Nat->Prop} {w:jk3}
structure gG (w:jk3) (b o:Nat) (k:Int) (t d ti:ByteArray) (id:ByteArray) (vc vp va vi vk:jk5):Prop where
 c0:w.cell? ⟨b,o,none⟩=some (.int .i64 k)
 c1:w.cell? ⟨b,o+1,none⟩=some (.string t)
 c2:w.cell? ⟨b,o+2,none⟩=some (.string d)
 c3:w.cell? ⟨b,o+3,none⟩=some (.string ti)
 c4:w.cell? ⟨b,o+4,none⟩=some (.string id)
 c5:w.cell? ⟨b,o+5,none⟩=some vc
 c6:w.cell? ⟨b,o+6,none⟩=some vp
 c7:w.cell? ⟨b,o+7,none⟩=some va
 c8:w.cell? ⟨b,o+8,none⟩=some vi
 c9:w.cell? ⟨b,o+9,none⟩=some vk
theorem gG.of {w:jk3} {b o:Nat} {cs:List jk5} {k:Int} {t d ti id:ByteArray} {vc vp va vi vk:jk5} (hcs:cs=[.int .i64 k,.string t,.string d,.string ti,.string id,vc,vp,va,vi,vk]) (h:∀ j u,cs[j]?=some u->w.cell? ⟨b,o+j,none⟩=some u):gG w b o k t d ti id vc vp va vi vk:=by subst hcs;exact ⟨h 0 _ rfl,h 1 _ rfl,h 2 _ rfl,h 3 _ rfl,h 4 _ rfl,h 5 _ rfl,h 6 _ rfl,h 7 _ rfl,h 8 _ rfl,h 9 _ rfl⟩
theorem Jp {l:List aj} {a:Option Addr} {cap:Nat} (h:qI ok w 10 (l.map aj.d) a cap) {k:Nat} {kd:Int} {t d ti:ByteArray} {at_:At} {ar:List ByteArray} {ci:List Ci} {ks:List aj} (hk:l[k]?=some (.mk kd t d ti at_ ar ci ks)) : ∃ b off vc vp va vi vk,a=some ⟨b,off,none⟩/\ok b/\b<w.heap.size/\gG w b (off+k*10) kd t d ti at_.id vc vp va vi vk/\dQ ok w at_ ar ci ks vc vp va vi vk:=by
 have hlt:k<l.length:=(List.getElem?_eq_some_iff.1 hk).1;obtain ⟨b,off,ha,hok,hb,hc⟩:=h.at_ (by simpa using Nat.lt_of_le_of_lt (jhq _) hlt)
 obtain ⟨r,hr,hl,hcell⟩:=hc k _ (by rw [List.getElem?_map,hk];rfl);obtain ⟨vc,vp,va,vi,vk,hcs,hR⟩:=aj.open_ hr;exact ⟨b,off,vc,vp,va,vi,vk,ha,hok,hb,gG.of hcs (fun j u hu=>by rw [Nat.add_assoc];exact hcell j u hu),hR⟩
structure dR (w:jk3) (b o:Nat) (k lv:Int) (i t d ti:ByteArray) (id:ByteArray) (vc vp vl vk:jk5):Prop where
 c0:w.cell? ⟨b,o,none⟩=some (.int .i64 k)
 c1:w.cell? ⟨b,o+1,none⟩=some (.int .i64 lv)
 c2:w.cell? ⟨b,o+2,none⟩=some (.string i)
 c3:w.cell? ⟨b,o+3,none⟩=some (.string t)
 c4:w.cell? ⟨b,o+4,none⟩=some (.string d)
 c5:w.cell? ⟨b,o+5,none⟩=some (.string ti)
 c6:w.cell? ⟨b,o+6,none⟩=some (.string id)
 c7:w.cell? ⟨b,o+7,none⟩=some vc
 c8:w.cell? ⟨b,o+8,none⟩=some vp
 c9:w.cell? ⟨b,o+9,none⟩=some vl
 c10:w.cell? ⟨b,o+10,none⟩=some vk
theorem dR.of {w:jk3} {b o:Nat} {cs:List jk5} {k lv:Int} {i t d ti id:ByteArray} {vc vp vl vk:jk5} (hcs:cs=[.int .i64 k,.int .i64 lv,.string i,.string t,.string d,.string ti,.string id,vc,vp,vl,vk]) (h:∀ j u,cs[j]?=some u->w.cell? ⟨b,o+j,none⟩=some u):dR w b o k lv i t d ti id vc vp vl vk:=by subst hcs;exact ⟨h 0 _ rfl,h 1 _ rfl,h 2 _ rfl,h 3 _ rfl,h 4 _ rfl,h 5 _ rfl,h 6 _ rfl,h 7 _ rfl,h 8 _ rfl,h 9 _ rfl,h 10 _ rfl⟩
theorem iF {l:List au} {a:Option Addr} {cap:Nat} (h:qI ok w 11 (l.map au.d) a cap) {k:Nat} {kd lv:Int} {i t d ti:ByteArray} {at_:At} {li:List aj} {ks:List au} (hk:l[k]?=some (.mk kd lv i t d ti at_ li ks)) : ∃ b off vc vp vl vk,a=some ⟨b,off,none⟩/\ok b/\b<w.heap.size/\dR w b (off+k*11) kd lv i t d ti at_.id vc vp vl vk/\je ok w at_ li ks vc vp vl vk:=by
 have hlt:k<l.length:=(List.getElem?_eq_some_iff.1 hk).1;obtain ⟨b,off,ha,hok,hb,hc⟩:=h.at_ (by simpa using Nat.lt_of_le_of_lt (jhq _) hlt)
 obtain ⟨r,hr,hl,hcell⟩:=hc k _ (by rw [List.getElem?_map,hk];rfl);obtain ⟨vc,vp,vl,vk,hcs,hR⟩:=au.open_ hr;exact ⟨b,off,vc,vp,vl,vk,ha,hok,hb,dR.of hcs (fun j u hu=>by rw [Nat.add_assoc];exact hcell j u hu),hR⟩
open Go.RowKit
set_option linter.unusedVariables false
set_option linter.unusedSimpArgs false
theorem tQ (k:Int):(k=1\/k=4\/k=5)\/(k=2\/k=3)\/(k=6\/k=7\/k=8\/k=9\/k=10\/k=11)\/k=16\/(k≠1/\k≠4/\k≠5/\k≠2/\k≠3/\k≠6/\k≠7/\k≠8/\k≠9/\k≠10/\k≠11/\k≠16):=by omega
theorem kD (a b:List UInt8):(⟨a.toArray⟩:ByteArray)++⟨b.toArray⟩=⟨(a++b).toArray⟩:=by apply ByteArray.ext;simp
theorem rU (a:List UInt8) (x:ByteArray):(⟨a.toArray⟩:ByteArray)++x=⟨(a++x.data.toList).toArray⟩:=by apply ByteArray.ext;simp
open Go.RowKit
theorem uQ {a b:Bool} (h:a=b):Ending.returned (.bool a)=.returned (.bool b):=by rw [h]
theorem gD {a b:Int} (h:a=b):Ending.returned (.int .i64 a)=.returned (.int .i64 b):=by rw [h]
theorem DR (c:Nat) (w:jk3) (hc:c<=1114111) : Calls Tryz.prog 252 #[.int .i64 (c:Int)] w fun e w'=>e=.returned (.bool (Qg c))/\w=w':=by
 go_enter Tryz.func252,Tryz.ntmps252;go_wp2;all_goals
  go_ret;refine ⟨uQ ?_,rfl⟩;unfold Qg
  (try simp only [beq_iff_eq,beq_eq_false_iff_ne,ne_eq] at *)
  rw [jh5];simp;omega
theorem Ea (c:Nat) (w:jk3) (hc:c<=1114111) : Calls Tryz.prog 230 #[.int .i64 (c:Int)] w fun e w'=>e=.returned (.bool (BQ c))/\w=w':=by
 go_enter Tryz.func230,Tryz.ntmps230;go_wp2;all_goals
  go_ret;refine ⟨uQ ?_,rfl⟩;unfold BQ lT;rw [jh5];simp
  (try omega)
theorem BO (c:Nat) (w:jk3) (hc:c<=1114111) : Calls Tryz.prog 229 #[.int .i64 (c:Int)] w fun e w'=>e=.returned (.bool (iD c))/\w=w':=by
 go_enter Tryz.func229,Tryz.ntmps229;go_wp2;all_goals
  go_ret;refine ⟨uQ ?_,rfl⟩;unfold iD lT
  (try simp only [beq_iff_eq,beq_eq_false_iff_ne,ne_eq] at *)
  simp;omega
theorem DU (c:Nat) (w:jk3) (hc:c<=1114111) : Calls Tryz.prog 255 #[.int .i64 (c:Int)] w fun e w'=>e=.returned (.int .i64 (fG c:Nat))/\w=w':=by
 go_enter Tryz.func255,Tryz.ntmps255;go_wp2;all_goals
  go_ret;refine ⟨gD ?_,rfl⟩;unfold fG
  (try simp only [bne_iff_ne,bne_eq_false_iff_eq,ne_eq] at *)
  (repeat' split)<;>omega
open Go.RowKit
def dM (c:Nat):Bool:=lT c 97 122||lT c 65 90
def Gl (c:Nat):Bool:=(decide (c=45)||decide (c=95)||decide (c=46)||decide (c=58))||(dM c||lT c 48 57)
theorem uM (c:Nat) (w:jk3) (hc:c<256) : Calls Tryz.prog 115 #[.int .u8 (c:Int)] w fun e w'=>e=.returned (.bool (dM c))/\w=w':=by
 go_enter Tryz.func115,Tryz.ntmps115;go_wp2;all_goals
  go_ret;refine ⟨uQ ?_,rfl⟩;unfold dM lT;rw [jh5];simp
  (try omega)
theorem xZ (c:Nat) (w:jk3) (hc:c<256) : Calls Tryz.prog 169 #[.int .u8 (c:Int)] w fun e w'=>e=.returned (.bool (Gl c))/\w=w':=by
 have LT:=hid (fun w=>uM c w hc);by_cases h:c=45\/c=95\/c=46\/c=58
 ·have hv:Gl c=true:=by unfold Gl;rcases h with h | h | h | h<;>simp [h]
  rw [hv];clear hv;rcases h with rfl | rfl | rfl | rfl
  all_goals
   go_enter Tryz.func169,Tryz.ntmps169;go_wp2;go_ret;exact ⟨rfl,rfl⟩
 ·have e1:((c:Int)==45)=false:=by rw [beq_eq_false_iff_ne];omega
  have e2:((c:Int)==95)=false:=by rw [beq_eq_false_iff_ne];omega
  have e3:((c:Int)==46)=false:=by rw [beq_eq_false_iff_ne];omega
  have e4:((c:Int)==58)=false:=by rw [beq_eq_false_iff_ne];omega
  have hv:Gl c=(dM c||lT c 48 57):=by unfold Gl;rw [show (decide (c=45)||decide (c=95)||decide (c=46)||decide (c=58))=false by simp;omega];rfl
  have HV:=hid hv;generalize Gl c=V at *;clear hv h;cases hl:dM c with
  | true=>
   rw [hl] at LT;go_enter Tryz.func169,Tryz.ntmps169;go_wp2_with fail
   refine (LT.out _).mono ?_;rintro e w1 ⟨rfl,rfl⟩;go_wp2;go_ret;exact ⟨by rw [HV.out,hl];rfl,rfl⟩
  | false=>
   rw [hl] at LT;rw [hl] at HV;by_cases h48:48<=c
   ·have q1:decide ((48:Int)<=(c:Int))=true:=by simp;omega
    go_enter Tryz.func169,Tryz.ntmps169;go_wp2_with fail
    refine (LT.out _).mono ?_;rintro e w1 ⟨rfl,rfl⟩;go_wp2;go_ret;refine ⟨?_,rfl⟩;rw [HV.out];refine uQ ?_;rw [jh5];simp [lT];omega
   ·have q1:decide ((48:Int)<=(c:Int))=false:=by simp;omega
    go_enter Tryz.func169,Tryz.ntmps169;go_wp2_with fail
    refine (LT.out _).mono ?_;rintro e w1 ⟨rfl,rfl⟩;go_wp2;go_ret;refine ⟨?_,rfl⟩;rw [HV.out];refine uQ ?_;rw [jh5];simp [lT];omega
def gU (c:UInt8):Bool:=Gl c.toNat
theorem lS (p:UInt8->Bool):∀ (l:List UInt8) (k:Nat),k<=l.length->(∀ j x,j<k->l[j]?=some x->p x=true)->(∀ x,l[k]?=some x->p x=false)->(l.takeWhile p).length=k
 | [],k,h,_,_=>by simp at h;subst h;rfl
 | x::l,0,_,_,h2=>by rw [List.takeWhile_cons,h2 x rfl];rfl
 | x::l,k+1,h,h1,h2=>by
  rw [List.takeWhile_cons,h1 0 x (by omega) rfl];simp;exact lS p l k (by simpa using h) (fun j y hj hy=>h1 (j+1) y (by omega) (by simpa using hy)) (fun y hy=>h2 y (by simpa using hy))
def rV (s:ByteArray):Nat:=(s.data.toList.takeWhile gU).length
theorem BI (s:ByteArray) (k:Nat) (h:k<s.size):s.data.toList[k]?=some s[k]:=by rw [List.getElem?_eq_getElem (by simpa using h)];rfl
theorem FM (s:ByteArray) (w:jk3) (hs:s.size<=1000000000) : Calls Tryz.prog 116 #[.string s,.int .i64 0] w fun e w'=>e=.returned (.int .i64 (rV s:Nat))/\w=w':=by
 obtain ⟨V,hV⟩:∃ V,V=rV s:=⟨_,rfl⟩;rw [<- hV];have HV:=hid hV;clear hV;go_enter Tryz.func116,Tryz.ntmps116;go_wp2
 go_loop [1] (fun vi=>∃ k:Nat,k<=s.size/\vi=.int .i64 k/\∀ j x,j<k->s.data.toList[j]?=some x->gU x=true) (fun i=>s.size-(intOf i).toNat)
 case atStart=>exact ⟨0,jhq _,rfl,fun j x hj=>by omega⟩
 case round=>
  obtain ⟨k,hk,rfl,hall⟩:=hrel;have HA:=hid hall;clear hall;by_cases hlt:k<s.size
  ·have hgl:=UInt8.toNat_lt s[k];have IN:=hid (fun w=>xZ s[k].toNat w hgl);have HG:=hid (BI s k hlt);cases hn:Gl s[k].toNat with
   | true=>
    rw [hn] at IN;have HN:=hid hn;clear hn;go_wp2_with fail
    refine (IN.out _).mono ?_;rintro e w1 ⟨rfl,rfl⟩;go_wp2
    go_round
    case rel=>
     refine ⟨k+1,by omega,by go_num,fun j x hj hx=>?_⟩;rcases Nat.lt_or_ge j k with h | h
     ·exact HA.out j x h hx
     ·have:j=k:=by omega
      subst this;rw [HG.out] at hx;obtain rfl:=Option.some.inj hx;exact HN.out
    case measure=>simp [intOf];omega
   | false=>
    rw [hn] at IN;have hw:V=k:=by rw [HV.out];exact lS gU _ k (by simpa using hk) HA.out (fun x hx=>by rw [HG.out] at hx;obtain rfl:=Option.some.inj hx;exact hn)
    have HW:=hid hw;clear hn hw;go_wp2_with fail
    refine (IN.out _).mono ?_;rintro e w1 ⟨rfl,rfl⟩;go_wp2;go_ret;exact ⟨by rw [HW.out];rfl,rfl⟩
  ·have hw:V=k:=by
    rw [HV.out];refine lS gU _ k (by simpa using hk) HA.out (fun x hx=>?_);have:=(List.getElem?_eq_some_iff.1 hx).1;have e:s.data.toList.length=s.size:=by simp
    omega
   have HW:=hid hw;clear hw;go_wp2;go_ret;exact ⟨by rw [HW.out];rfl,rfl⟩
def fP (s:ByteArray):Bool:=decide (1<=s.size)&&decide (s.size<=60)&&(match s.data.toList with | []=>false | c::_=>dM c.toNat)&&decide (rV s=s.size)
theorem Jw (s:ByteArray) (w:jk3) (hs:s.size<=1000000000) : Calls Tryz.prog 67 #[.string s] w fun e w'=>e=.returned (.bool (fP s))/\w=w':=by
 by_cases h0:s.size=0
 ·have hv:fP s=false:=by unfold fP;simp [h0]
  rw [hv];have e0:((s.size:Int)==0)=true:=by simp [h0]
  clear hv h0;go_enter Tryz.func67,Tryz.ntmps67;go_wp2;go_ret;exact ⟨rfl,rfl⟩
 have e0:((s.size:Int)==0)=false:=by rw [beq_eq_false_iff_ne];omega
 by_cases h60:60<s.size
 ·have hv:fP s=false:=by unfold fP;simp;omega
  rw [hv];have e1:decide ((60:Int)<(s.size:Int))=true:=by simp;omega
  clear hv;go_enter Tryz.func67,Tryz.ntmps67;go_wp2;go_ret;exact ⟨rfl,rfl⟩
 have e1:decide ((60:Int)<(s.size:Int))=false:=by simp;omega
 have hp:0<s.size:=by omega
 have hg:=BI s 0 hp;obtain ⟨c,hc⟩:∃ c,s[0]=c:=⟨_,rfl⟩;rw [hc] at hg;have hcl:=UInt8.toNat_lt c;have LT:=hid (fun w=>uM c.toNat w hcl);have WE:=hid (fun w=>FM s w hs);have hl:s.data.toList=c::s.data.toList.tail:=by
  cases h:s.data.toList with
  | nil=>rw [h] at hg;simp at hg
  | cons a l=>rw [h] at hg;simp at hg;rw [hg];rfl
 have hv:fP s=(dM c.toNat&&decide (rV s=s.size)):=by unfold fP;rw [hl,decide_eq_true (show 1<=s.size by omega),decide_eq_true (show s.size<=60 by omega)];rfl
 have HV:=hid hv;generalize fP s=V at *;generalize rV s=E at *;clear hv hl hg;cases hlt:dM c.toNat with
 | false=>
  rw [hlt] at LT;rw [hlt] at HV;go_enter Tryz.func67,Tryz.ntmps67;go_wp2_with fail
  refine (LT.out _).mono ?_;rintro e w1 ⟨rfl,rfl⟩;go_wp2;go_ret;exact ⟨by rw [HV.out];rfl,rfl⟩
 | true=>
  rw [hlt] at LT;rw [hlt] at HV;go_enter Tryz.func67,Tryz.ntmps67;go_wp2_with fail
  refine (LT.out _).mono ?_;rintro e w1 ⟨rfl,rfl⟩;go_wp2_with fail
  refine (WE.out _).mono ?_;rintro e w1 ⟨rfl,rfl⟩;go_wp2;go_ret;refine ⟨?_,rfl⟩;rw [HV.out];refine uQ ?_;rw [jh5];simp
  (try omega)
open Go.RowKit
theorem Hq (n:Nat):∀ (l:List aj) (ok:Nat->Prop) (v:jk5) (w:jk3),aj.aZ l<=n->Rd ok w (bC l) [v]->(aj.aD l).length<=1000000000 -> Calls Tryz.prog 27 #[v] w fun e w'=>e=.returned (.string ⟨(aj.aD l).toArray⟩)/\w=w':=by
 induction n using Nat.strongRecOn with
 | _ n ih=>
  intro l ok v w hn hrd hlen;obtain ⟨a,cap,hv,hs⟩:=Rd.aB hrd;obtain rfl:v=.slice a l.length cap:=by simpa using hv
  have hcap:l.length<=cap:=by simpa using hs.le
  have hmx:=hs.max;have HS:=hid hs;have HZ:Hid (aj.aD (l.take 0)=[]):=by show aj.aD []=[];rw [aj.aD]
  have IH:=hid ih;clear hs hv hrd ih;unfold maxLen at hmx;go_enter Tryz.func27,Tryz.ntmps27;go_wp2
  go_loop [3,4] (fun v i=>∃ k:Nat,k<=l.length/\i=.int .i64 k/\v=.string ⟨(aj.aD (l.take k)).toArray⟩) (fun _ i=>l.length-(intOf i).toNat)
  case atStart=>exact ⟨0,jhq _,rfl,by rw [HZ.out]⟩
  case round=>
   obtain ⟨k,hk,rfl,rfl⟩:=hrel;by_cases hlt:k<l.length
   ·obtain ⟨x,hx⟩:∃ x,l[k]?=some x:=⟨_,List.getElem?_eq_getElem hlt⟩;obtain ⟨kd,t,d,ti,at_,ar,ci,ks⟩:=x;obtain ⟨b,off,vc,vp,va,vi,vk,rfl,hok,hbl,hc,hR⟩:=Jp HS.out hx;obtain ⟨c0,c1,c2,-,-,-,-,-,-,c9⟩:=hc;have vU:=hR.kids;have hsz:=aj.bE l k _ hx;rw [aj.sz] at hsz;have HT:=hid (aj.ny l k _ hx);have hle:=aj.DX l k _ hx;have ik:=fun h=>IH.out (aj.aZ ks) (by omega) ks ok vk w (Nat.le_refl _) vU h
    have IK:=hid ik;clear hx vU hR ik;generalize hacc:aj.aD (l.take k)=acc at *;generalize hacc':aj.aD (l.take (k+1))=acc' at *;have sG:=hid hacc';clear hacc hacc';rcases tQ kd with (rfl | rfl | rfl) | (rfl | rfl) | (rfl | rfl | rfl | rfl | rfl | rfl) | rfl | h
    ·have hp:(aj.mk 1 t d ti at_ ar ci ks).plain=t.data.toList:=by rw [aj.plain];simp
     rw [hp] at HT hle;have hle2:acc.length+t.size<=1000000000:=by rw [Lib.size_eq];omega
     clear hp hle IK;go_wp2
     go_round
     case rel=>exact ⟨k+1,by omega,by go_num,by rw [sG.out,HT.out,rU]⟩
     case measure=>simp [intOf];omega
    ·have hp:(aj.mk 4 t d ti at_ ar ci ks).plain=t.data.toList:=by rw [aj.plain];simp
     rw [hp] at HT hle;have hle2:acc.length+t.size<=1000000000:=by rw [Lib.size_eq];omega
     clear hp hle IK;go_wp2
     go_round
     case rel=>exact ⟨k+1,by omega,by go_num,by rw [sG.out,HT.out,rU]⟩
     case measure=>simp [intOf];omega
    ·have hp:(aj.mk 5 t d ti at_ ar ci ks).plain=t.data.toList:=by rw [aj.plain];simp
     rw [hp] at HT hle;have hle2:acc.length+t.size<=1000000000:=by rw [Lib.size_eq];omega
     clear hp hle IK;go_wp2
     go_round
     case rel=>exact ⟨k+1,by omega,by go_num,by rw [sG.out,HT.out,rU]⟩
     case measure=>simp [intOf];omega
    ·have hp:(aj.mk 2 t d ti at_ ar ci ks).plain=[32]:=by rw [aj.plain];simp
     rw [hp] at HT hle;simp only [List.length_cons,List.length_nil] at hle;clear hp IK;go_wp2
     go_round
     case rel=>exact ⟨k+1,by omega,by go_num,by rw [sG.out,HT.out];exact congrArg Value.string (kD acc [32])⟩
     case measure=>simp [intOf];omega
    ·have hp:(aj.mk 3 t d ti at_ ar ci ks).plain=[32]:=by rw [aj.plain];simp
     rw [hp] at HT hle;simp only [List.length_cons,List.length_nil] at hle;clear hp IK;go_wp2
     go_round
     case rel=>exact ⟨k+1,by omega,by go_num,by rw [sG.out,HT.out];exact congrArg Value.string (kD acc [32])⟩
     case measure=>simp [intOf];omega
    ·have hp:(aj.mk 6 t d ti at_ ar ci ks).plain=aj.aD ks:=by rw [aj.plain];simp
     rw [hp] at HT hle;have pW:=hid (IK.out (by omega));clear hp IK;generalize aj.aD ks=pk at *;go_wp2_with fail
     refine pW.out.mono ?_;rintro e w1 ⟨rfl,rfl⟩;go_wp2
     go_round
     case rel=>exact ⟨k+1,by omega,by go_num,by rw [sG.out,HT.out];exact congrArg Value.string (kD acc pk)⟩
     case measure=>simp [intOf];omega
    ·have hp:(aj.mk 7 t d ti at_ ar ci ks).plain=aj.aD ks:=by rw [aj.plain];simp
     rw [hp] at HT hle;have pW:=hid (IK.out (by omega));clear hp IK;generalize aj.aD ks=pk at *;go_wp2_with fail
     refine pW.out.mono ?_;rintro e w1 ⟨rfl,rfl⟩;go_wp2
     go_round
     case rel=>exact ⟨k+1,by omega,by go_num,by rw [sG.out,HT.out];exact congrArg Value.string (kD acc pk)⟩
     case measure=>simp [intOf];omega
    ·have hp:(aj.mk 8 t d ti at_ ar ci ks).plain=aj.aD ks:=by rw [aj.plain];simp
     rw [hp] at HT hle;have pW:=hid (IK.out (by omega));clear hp IK;generalize aj.aD ks=pk at *;go_wp2_with fail
     refine pW.out.mono ?_;rintro e w1 ⟨rfl,rfl⟩;go_wp2
     go_round
     case rel=>exact ⟨k+1,by omega,by go_num,by rw [sG.out,HT.out];exact congrArg Value.string (kD acc pk)⟩
     case measure=>simp [intOf];omega
    ·have hp:(aj.mk 9 t d ti at_ ar ci ks).plain=aj.aD ks:=by rw [aj.plain];simp
     rw [hp] at HT hle;have pW:=hid (IK.out (by omega));clear hp IK;generalize aj.aD ks=pk at *;go_wp2_with fail
     refine pW.out.mono ?_;rintro e w1 ⟨rfl,rfl⟩;go_wp2
     go_round
     case rel=>exact ⟨k+1,by omega,by go_num,by rw [sG.out,HT.out];exact congrArg Value.string (kD acc pk)⟩
     case measure=>simp [intOf];omega
    ·have hp:(aj.mk 10 t d ti at_ ar ci ks).plain=aj.aD ks:=by rw [aj.plain];simp
     rw [hp] at HT hle;have pW:=hid (IK.out (by omega));clear hp IK;generalize aj.aD ks=pk at *;go_wp2_with fail
     refine pW.out.mono ?_;rintro e w1 ⟨rfl,rfl⟩;go_wp2
     go_round
     case rel=>exact ⟨k+1,by omega,by go_num,by rw [sG.out,HT.out];exact congrArg Value.string (kD acc pk)⟩
     case measure=>simp [intOf];omega
    ·have hp:(aj.mk 11 t d ti at_ ar ci ks).plain=aj.aD ks:=by rw [aj.plain];simp
     rw [hp] at HT hle;have pW:=hid (IK.out (by omega));clear hp IK;generalize aj.aD ks=pk at *;go_wp2_with fail
     refine pW.out.mono ?_;rintro e w1 ⟨rfl,rfl⟩;go_wp2
     go_round
     case rel=>exact ⟨k+1,by omega,by go_num,by rw [sG.out,HT.out];exact congrArg Value.string (kD acc pk)⟩
     case measure=>simp [intOf];omega
    ·have hp:(aj.mk 16 t d ti at_ ar ci ks).plain=d.data.toList:=by rw [aj.plain];simp
     rw [hp] at HT hle;have hle2:acc.length+d.size<=1000000000:=by rw [Lib.size_eq];omega
     clear hp hle IK;go_wp2
     go_round
     case rel=>exact ⟨k+1,by omega,by go_num,by rw [sG.out,HT.out,rU]⟩
     case measure=>simp [intOf];omega
    ·obtain ⟨h1,h4,h5,h2,h3,h6,h7,h8,h9,h10,h11,h16⟩:=h;have hp:(aj.mk kd t d ti at_ ar ci ks).plain=[]:=by rw [aj.plain];simp [h1,h2,h3,h4,h5,h6,h7,h8,h9,h10,h11,h16]
     rw [hp] at HT;have f1:=beq_false_of_ne h1;have f2:=beq_false_of_ne h2;have f3:=beq_false_of_ne h3;have f4:=beq_false_of_ne h4;have f5:=beq_false_of_ne h5;have f6:=beq_false_of_ne h6;have f7:=beq_false_of_ne h7;have f8:=beq_false_of_ne h8;have f9:=beq_false_of_ne h9;have f10:=beq_false_of_ne h10;have f11:=beq_false_of_ne h11;have f16:=beq_false_of_ne h16;clear hp h1 h2 h3 h4 h5 h6 h7 h8 h9 h10 h11 h16 IK hle;go_wp2
     go_round
     case rel=>exact ⟨k+1,by omega,by go_num,by rw [sG.out,HT.out,List.append_nil]⟩
     case measure=>simp [intOf];omega
   ·have hkl:k=l.length:=by omega
    have hE:aj.aD (l.take k)=aj.aD l:=by rw [hkl,List.take_length]
    have HE:=hid hE;clear hkl hE;go_wp2;go_ret;exact ⟨by rw [<- HE.out];rfl,rfl⟩
end Go.Proofs.YtclikfjalmcoaaaGreatDoor

