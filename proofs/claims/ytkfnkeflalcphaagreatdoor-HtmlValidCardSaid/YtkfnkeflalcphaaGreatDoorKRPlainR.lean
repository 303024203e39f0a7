/- Small laws on memory, used by the walks of this seat. Data in memory: what cells read as, whatever the types; kept while the blocks that are read stay. The document's data, as plain data and in memory. Plain functions on the document's data, and its cells for a walk. The contract of publisherref04.Plain. Contracts of chars.Space, Digit, Letter, Lower: what they are of a code point. Contracts of the code point readers of publisherref01 and of white space, over this seat's translation. The contract of publisherref01.at: the code point at a byte is the one that UTF-8 decoding gives. Contracts of publisherref01.Lower, in, Letter, bytes, Text. Contracts of attr.letter, inName, wordEnd, Name. The contract of publisherref04.Plain. -/
import Derived.Test.YtkfnkeflalcphaaGreatDoorProg
import Derived.BigQuiet
import Derived.Lib.Hide
import Derived.WalkLawsBesides
import Derived.Lib.Strings
import Derived.Test.YtkfnkeflalcphaaGreatDoorKPlFold
set_option maxHeartbeats 4000000
set_option maxRecDepth 100000
open Go.Lib (hid)
namespace Go.Proofs.YtkfnkeflalcphaaGreatDoor
open Go.RowKit.Below renaming refl->jnk
open Nat renaming le_refl->jnq,zero_le->jo7
open Bool renaming eq_iff_iff->jo0
open Go renaming World->jqz,Value->jr1
open Go.RowKit
theorem Y5 {B:Nat} {e:TypeId} {k:Nat} {v:jr1} {n:Nat} {xs:List jr1} {w w':jqz} (h:w.ownsRow B e k v n xs) (hb:Below w.heap.size w w'):w'.ownsRow B e k v n xs:=
 h.kept (row:=none) ⟨hb.os,hb.tape,hb.output,hb.size,fun i hi _=>hb.block i hi⟩ (by cases v.ownBlock<;>simp)
theorem gG {B:Nat} {a w:jqz} (h:Below B a w) (q:Nat):Below B a (w.drewN q):=⟨h.os,h.tape,h.output,h.size,h.block⟩
theorem aU {w wr w1:jqz} (h:Below w.heap.size w wr) (h1:Below wr.heap.size wr w1):Below w.heap.size w w1:=h.trans (h1.mono h.size)
theorem Om (w:jqz) (cs:List jr1) (T:TypeId):∀ j u,cs[j]?=some u->(w.alloc (.cells cs.toArray T)).cell? ((⟨w.heap.size,0,none⟩:Addr).add j)=some u:=by
 intro j u h;have e:((⟨w.heap.size,0,none⟩:Addr).add j)=⟨w.heap.size,j,none⟩:=by unfold Addr.add;split<;>simp_all
 rw [e];have hb:(w.alloc (.cells cs.toArray T)).heap[w.heap.size]?=some (.cells cs.toArray T):=by show (w.heap.push _)[w.heap.size]?=_;simp
 simp only [World.cell?,hb];simpa using h
theorem Ch (w:jqz) (v:jr1) (T:TypeId):∀ j u,[v][j]?=some u->(w.alloc (.cells #[v] T)).cell? ((⟨w.heap.size,0,none⟩:Addr).add j)=some u:=Om w [v] T
theorem NU {w:jqz} {B B':Nat} {e:TypeId} {k:Nat} {v:jr1} {n:Nat} {xs:List jr1} (h:w.ownsRow B e k v n xs) (hb:B'<=B):w.ownsRow B' e k v n xs:=by
 obtain ⟨h1,h2⟩:=h;refine ⟨h1,?_⟩;rcases h2 with h2 | ⟨g,cap,cur,r1,r2,r3⟩
 ·exact .inl h2
 ·exact .inr ⟨g,cap,cur,r1,Nat.le_trans hb r2,r3⟩
theorem qZ {w:jqz} {B:Nat} {e:TypeId} {k:Nat} {v:jr1} {n:Nat} {xs:List jr1} (h:w.ownsRow B e k v n xs) (hn:0<n):∃ g cap,v=.slice (some ⟨g,0,none⟩) n cap/\n<=cap:=by
 rcases h.2 with ⟨_,h2⟩ | ⟨g,cap,cur,r1,r2,r3,r4,_⟩
 ·omega
 ·exact ⟨g,cap,r1,r4⟩
theorem E9 {a b c:jqz} {row:Option Nat} (h:a.grownBy b row) (k:b.grownBy c row):a.grownBy c row:=
 ⟨k.os.trans h.os,k.tape.trans h.tape,k.output.trans h.output,Nat.le_trans h.size k.size,fun i hi hr=>(k.block i (Nat.lt_of_lt_of_le hi h.size) hr).trans (h.block i hi hr)⟩
theorem IJ {a b:jqz} {row:Option Nat} (h:a.grownBy b row):a.grownBy b.drew row:=⟨h.os,h.tape,h.output,h.size,h.block⟩
theorem EM {w:jqz} {b o:Nat} {v:jr1} (h:w.cell? ⟨b,o,none⟩=some v):b<w.heap.size:=by
 refine Nat.lt_of_not_le fun hle=>?_
 have:w.heap[b]?=none:=by rw [Array.getElem?_eq_none_iff];exact hle
 simp [World.cell?,this] at h
theorem past {w:jqz} {b off:Nat} {v:jr1} (h:w.cell? ⟨b,off,none⟩=some v) (o:Obj):(w.alloc o).cell? ⟨b,off,none⟩=some v:=
 (World.cell?_of_block (w:=w) (a:=⟨b,off,none⟩) (Below.heap_alloc w o b (EM h))).trans h
def RY (w:jqz) (k:Nat) (v:jr1) (n:Nat) (xs:List jr1):Prop:=
 xs.length=n*k/\∃ a cap,v=.slice a n cap/\n<=cap/\cap<=maxLen/\(n=0\/∃ b off,a=some ⟨b,off,none⟩/\∀ j u,xs[j]?=some u->w.cell? ⟨b,off+j,none⟩=some u)
theorem RY.Xf {w:jqz} {B:Nat} {e:TypeId} {k:Nat} {v:jr1} {n:Nat} {xs:List jr1} (h:w.ownsRow B e k v n xs):RY w k v n xs:=by
 obtain ⟨h1,h2⟩:=h;refine ⟨h1,?_⟩;rcases h2 with ⟨rfl,rfl⟩ | ⟨g,cap,cur,rfl,hg,hb,hn,hm,hcs,hx⟩
 ·exact ⟨none,0,rfl,jnq _,jo7 _,.inl rfl⟩
 ·refine ⟨_,cap,rfl,hn,hm,.inr ⟨g,0,rfl,fun j u hu=>?_⟩⟩;have hown:w.ownsRow B e k (.slice (some ⟨g,0,none⟩) n cap) n xs:=⟨h1,.inr ⟨g,cap,cur,rfl,hg,hb,hn,hm,hcs,hx⟩⟩;have:=hown.cells rfl j u hu;rw [Nat.zero_add];rw [<- this];congr 1;unfold Addr.add;split<;>simp_all
open Go.RowKit
inductive D where
 | int (k:IntKind) (n:Int)
 | bool (b:Bool)
 | str (s:ByteArray)
 | st (fs:List D)
 | sl (k:Nat) (l:List D)
mutual
def Rd (ok:Nat->Prop) (w:jqz):D->List jr1->Prop
 | .int k n,cs=>cs=[.int k n]
 | .bool b,cs=>cs=[.bool b]
 | .str s,cs=>cs=[.string s]
 | .st fs,cs=>∃ rows,aQ ok w fs rows/\cs=rows.flatten
 | .sl k l,cs=>∃ a cap rows,cs=[.slice a l.length cap]/\l.length<=cap/\cap<=maxLen/\aQ ok w l rows/\(∀ r∈rows,r.length=k) /\
   (l.length=0\/∃ b off,a=some ⟨b,off,none⟩/\ok b/\b<w.heap.size/\∀ j u,rows.flatten[j]?=some u->w.cell? ⟨b,off+j,none⟩=some u)
def aQ (ok:Nat->Prop) (w:jqz):List D->List (List jr1)->Prop
 | [],rows=>rows=[]
 | d::ds,rows=>∃ r rs,rows=r::rs/\Rd ok w d r/\aQ ok w ds rs
end
theorem jG {w w':jqz} {b:Nat} (h:w'.heap[b]?=w.heap[b]?) (o:Nat):w'.cell? ⟨b,o,none⟩=w.cell? ⟨b,o,none⟩:=World.cell?_of_block (a:=⟨b,o,none⟩) h
theorem JH {w w':jqz} {b:Nat} (h:w'.heap[b]?=w.heap[b]?) (hb:b<w.heap.size):b<w'.heap.size:=by rw [Array.getElem?_eq_getElem hb] at h;exact (Array.getElem?_eq_some_iff.1 h).1
theorem q0o {w w':jqz} {row:Option Nat} {b o:Nat} {v:jr1} (hg:w.grownBy w' row) (hc:w.cell? ⟨b,o,none⟩=some v) (hne:row≠some b):w'.cell? ⟨b,o,none⟩=some v:=by rw [jG (hg.block b (EM hc) (fun e=>hne e.symm))];exact hc
theorem GN (w:jqz) (cs:List jr1) (T:TypeId) (j:Nat) (u:jr1) (h:cs[j]?=some u):(w.alloc (.cells cs.toArray T)).cell? ⟨w.heap.size,j,none⟩=some u:=by
 have:=Om w cs T j u h;have e:((⟨w.heap.size,0,none⟩:Addr).add j)=⟨w.heap.size,j,none⟩:=by unfold Addr.add;split<;>simp_all
 rwa [e] at this
theorem own_ne {w:jqz} {B:Nat} {e:TypeId} {k:Nat} {v:jr1} {n:Nat} {xs:List jr1} {b:Nat} (h:w.ownsRow B e k v n xs) (hb:w.heap.size<=b):v.ownBlock≠some b:=fun e'=>by
 have:=(h.lt b e').2;omega
def AJ (ok ok':Nat->Prop) (w w':jqz):Prop:=∀ b,ok b->b<w.heap.size->ok' b/\w'.heap[b]?=w.heap[b]?
mutual
theorem Rd.keep {ok ok':Nat->Prop} {w w':jqz} (hs:AJ ok ok' w w'):∀ (d:D) (cs:List jr1),Rd ok w d cs->Rd ok' w' d cs
 | .int _ _,_,h=>by unfold Rd at h ⊢;exact h
 | .bool _,_,h=>by unfold Rd at h ⊢;exact h
 | .str _,_,h=>by unfold Rd at h ⊢;exact h
 | .st fs,_,h=>by
  unfold Rd at h ⊢;obtain ⟨rows,hr,hc⟩:=h;exact ⟨rows,aQ.keep hs fs rows hr,hc⟩
 | .sl k l,_,h=>by
  unfold Rd at h ⊢;obtain ⟨a,cap,rows,h1,h2,h3,h4,h5,h6⟩:=h;have h4':=aQ.keep hs l rows h4;refine ⟨a,cap,rows,h1,h2,h3,h4',h5,?_⟩;rcases h6 with h6 | ⟨b,off,h7,h8,hb,h9⟩
  ·exact .inl h6
  ·obtain ⟨k1,k2⟩:=hs b h8 hb;refine .inr ⟨b,off,h7,k1,JH k2 hb,fun j u hu=>by rw [jG k2];exact h9 j u hu⟩
theorem aQ.keep {ok ok':Nat->Prop} {w w':jqz} (hs:AJ ok ok' w w'):∀ (l:List D) (rows:List (List jr1)),aQ ok w l rows->aQ ok' w' l rows
 | [],_,h=>by unfold aQ at h ⊢;exact h
 | d::ds,_,h=>by
  unfold aQ at h ⊢;obtain ⟨r,rs,h1,h2,h3⟩:=h;exact ⟨r,rs,h1,Rd.keep hs d r h2,aQ.keep hs ds rs h3⟩
end
theorem aQ.len {ok:Nat->Prop} {w:jqz}:∀ {l:List D} {rows:List (List jr1)},aQ ok w l rows->rows.length=l.length
 | [],_,h=>by unfold aQ at h;simp [h]
 | d::ds,_,h=>by
  unfold aQ at h;obtain ⟨r,rs,rfl,_,h3⟩:=h;simp [aQ.len h3]
theorem aQ.get {ok:Nat->Prop} {w:jqz}:∀ {l:List D} {rows:List (List jr1)},aQ ok w l rows->∀ (i:Nat) (d:D),l[i]?=some d->∃ r,rows[i]?=some r/\Rd ok w d r
 | [],_,h,i,d,hd=>by simp at hd
 | x::xs,_,h,i,d,hd=>by
  unfold aQ at h;obtain ⟨r,rs,rfl,h2,h3⟩:=h;cases i with
  | zero=>simp at hd;subst hd;exact ⟨r,rfl,h2⟩
  | succ i=>simp at hd;obtain ⟨r',h4,h5⟩:=aQ.get h3 i d hd;exact ⟨r',by simpa using h4,h5⟩
theorem aQ.app {ok:Nat->Prop} {w:jqz}:∀ {l m:List D} {rows rows':List (List jr1)},aQ ok w l rows->aQ ok w m rows'->aQ ok w (l++m) (rows++rows')
 | [],_,_,_,h,h'=>by unfold aQ at h;subst h;exact h'
 | d::ds,_,_,_,h,h'=>by
  unfold aQ at h;obtain ⟨r,rs,rfl,h2,h3⟩:=h;show aQ ok w (d::(ds++_)) _;unfold aQ;exact ⟨r,rs++_,rfl,h2,aQ.app h3 h'⟩
theorem aQ.one {ok:Nat->Prop} {w:jqz} {d:D} {r:List jr1} (h:Rd ok w d r):aQ ok w [d] [r]:=by unfold aQ;exact ⟨r,[],rfl,h,by unfold aQ;rfl⟩
theorem aQ.none {ok:Nat->Prop} {w:jqz}:aQ ok w [] []:=by unfold aQ;rfl
theorem aQ.cons {ok:Nat->Prop} {w:jqz} {d:D} {ds:List D} {r:List jr1} {rs:List (List jr1)} (h:Rd ok w d r) (hs:aQ ok w ds rs):aQ ok w (d::ds) (r::rs):=by unfold aQ;exact ⟨r,rs,rfl,h,hs⟩
theorem kY (k:Nat):∀ (rows:List (List jr1)),(∀ r∈rows,r.length=k)->rows.flatten.length=rows.length*k
 | [],_=>by simp
 | r::rs,h=>by
  rw [List.flatten_cons,List.length_append,kY k rs (fun x hx=>h x (by simp [hx])),h r (by simp),List.length_cons,Nat.add_mul];omega
theorem flat_get (k:Nat):∀ (rows:List (List jr1)),(∀ r∈rows,r.length=k)->∀ (i j:Nat) (r:List jr1) (u:jr1),rows[i]?=some r->r[j]?=some u->rows.flatten[i*k+j]?=some u
 | [],_,i,j,r,u,h1,_=>by simp at h1
 | x::xs,h,i,j,r,u,h1,h2=>by
  have hx:=h x (by simp);rw [List.flatten_cons];cases i with
  | zero=>
   simp at h1;subst h1;have hj:j<x.length:=(List.getElem?_eq_some_iff.1 h2).1;rw [List.getElem?_append_left (by omega)];simpa using h2
  | succ i=>
   rw [List.getElem?_append_right (by rw [hx,Nat.add_mul];omega)];have e:(i+1)*k+j-x.length=i*k+j:=by rw [hx,Nat.add_mul];omega
   rw [e];exact flat_get k xs (fun y hy=>h y (by simp [hy])) i j r u (by simpa using h1) h2
structure mo (ok:Nat->Prop) (w:jqz) (k:Nat) (l:List D) (a:Option Addr) (cap:Nat):Prop where
 le:l.length<=cap
 max:cap<=maxLen
 at_:0<l.length->∃ b off,a=some ⟨b,off,none⟩/\ok b/\b<w.heap.size/\∀ i d,l[i]?=some d->∃ r,Rd ok w d r/\r.length=k/\∀ j u,r[j]?=some u->w.cell? ⟨b,off+(i*k+j),none⟩=some u
theorem Rd.aC {ok:Nat->Prop} {w:jqz} {k:Nat} {l:List D} {cs:List jr1} (h:Rd ok w (.sl k l) cs):∃ a cap,cs=[.slice a l.length cap]/\mo ok w k l a cap:=by
 unfold Rd at h;obtain ⟨a,cap,rows,h1,h2,h3,h4,h5,h6⟩:=h;refine ⟨a,cap,h1,h2,h3,fun hp=>?_⟩;rcases h6 with h6 | ⟨b,off,h7,h8,hb,h9⟩
 ·omega
 ·refine ⟨b,off,h7,h8,hb,fun i d hd=>?_⟩;obtain ⟨r,hr,hrd⟩:=h4.get i d hd;exact ⟨r,hrd,h5 r (List.mem_of_getElem? hr),fun j u hu=>h9 _ u (flat_get k rows h5 i j r u hr hu)⟩
theorem Rd.oL {ok:Nat->Prop} {w:jqz} {fs:List D} {cs:List jr1} (h:Rd ok w (.st fs) cs):∃ rows,aQ ok w fs rows/\cs=rows.flatten:=by unfold Rd at h;exact h
theorem Rd.Bv {ok:Nat->Prop} {w:jqz} {fs:List D} {rows:List (List jr1)} (h:aQ ok w fs rows):Rd ok w (.st fs) rows.flatten:=by unfold Rd;exact ⟨rows,h,rfl⟩
theorem aQ.aG {ok:Nat->Prop} {w:jqz} {d:D} {ds:List D} {rows:List (List jr1)} (h:aQ ok w (d::ds) rows):∃ r rs,rows=r::rs/\Rd ok w d r/\aQ ok w ds rs:=by unfold aQ at h;exact h
theorem aQ.eT {ok:Nat->Prop} {w:jqz} {rows:List (List jr1)} (h:aQ ok w [] rows):rows=[]:=by unfold aQ at h;exact h
theorem Rd.yR {ok:Nat->Prop} {w:jqz} {k:IntKind} {n:Int} {cs:List jr1} (h:Rd ok w (.int k n) cs):cs=[.int k n]:=by unfold Rd at h;exact h
theorem Rd.Mr {ok:Nat->Prop} {w:jqz} {b:Bool} {cs:List jr1} (h:Rd ok w (.bool b) cs):cs=[.bool b]:=by unfold Rd at h;exact h
theorem Rd.bC {ok:Nat->Prop} {w:jqz} {s:ByteArray} {cs:List jr1} (h:Rd ok w (.str s) cs):cs=[.string s]:=by unfold Rd at h;exact h
theorem Rd.Jl (ok:Nat->Prop) (w:jqz) (k:IntKind) (n:Int):Rd ok w (.int k n) [.int k n]:=by unfold Rd;rfl
theorem Rd.Uo (ok:Nat->Prop) (w:jqz) (b:Bool):Rd ok w (.bool b) [.bool b]:=by unfold Rd;rfl
theorem Rd.dR (ok:Nat->Prop) (w:jqz) (s:ByteArray):Rd ok w (.str s) [.string s]:=by unfold Rd;rfl
theorem Rd.aD (ok:Nat->Prop) (w:jqz) (k:Nat):Rd ok w (.sl k []) [.slice none 0 0]:=by unfold Rd;exact ⟨none,0,[],rfl,jnq _,jo7 _,aQ.none,by simp,.inl rfl⟩
theorem Rd.jR {ok:Nat->Prop} {w:jqz} {B:Nat} {e:TypeId} {k:Nat} {l:List D} {v:jr1} {rows:List (List jr1)} (ho:w.ownsRow B e k v l.length rows.flatten) (h:aQ ok w l rows) (hk:∀ r∈rows,r.length=k) (hok:∀ g,v.ownBlock=some g->ok g):Rd ok w (.sl k l) [v]:=by
 have hlt:=ho.lt;have hcl:∀ g cap,v=.slice (some ⟨g,0,none⟩) l.length cap->∀ j u,rows.flatten[j]?=some u->w.cell? ⟨g,0+j,none⟩=some u:=by rintro g cap rfl j u hu;rw [Nat.zero_add,<- ho.cells rfl j u hu];congr 1;unfold Addr.add;split<;>simp_all
 obtain ⟨h1,h2⟩:=ho;rcases h2 with ⟨rfl,hx⟩ | ⟨g,cap,cur,rfl,hg,hb,hn,hm,hcs,hx⟩
 ·unfold Rd;exact ⟨none,0,rows,by rw [hx],by omega,jo7 _,h,hk,.inl hx⟩
 ·unfold Rd;exact ⟨_,cap,rows,rfl,hn,hm,h,hk,.inr ⟨g,0,rfl,hok g rfl,(hlt g rfl).2,hcl g cap rfl⟩⟩
def kD (l:List ByteArray):D:=.sl 1 (l.map D.str)
theorem aQ.strs {ok:Nat->Prop} {w:jqz}:∀ (l:List ByteArray),aQ ok w (l.map D.str) (l.map fun s=>[Value.string s])
 | []=>aQ.none
 | s::l=>aQ.cons (Rd.dR ok w s) (aQ.strs l)
theorem oH:∀ (l:List ByteArray),(l.map fun s=>[Value.string s]).flatten=l.map Value.string
 | []=>rfl
 | s::l=>by simp [List.flatten_cons,oH l]
theorem aQ.oG {ok:Nat->Prop} {w:jqz}:∀ (l:List ByteArray) (rows:List (List jr1)),aQ ok w (l.map D.str) rows->rows=l.map fun s=>[Value.string s]
 | [],_,h=>by exact h.eT
 | s::l,_,h=>by
  obtain ⟨r,rs,rfl,h1,h2⟩:=h.aG;rw [h1.bC,aQ.oG l rs h2];rfl
theorem Rd.NP {ok:Nat->Prop} {w:jqz} {B:Nat} {e:TypeId} {l:List ByteArray} {v:jr1} (ho:w.ownsRow B e 1 v l.length (l.map Value.string)) (hok:∀ g,v.ownBlock=some g->ok g):Rd ok w (kD l) [v]:=by refine Rd.jR (rows:=l.map fun s=>[Value.string s]) (B:=B) (e:=e) ?_ (aQ.strs l) (by simp) hok;rw [oH,List.length_map];exact ho
open Go.RowKit
structure Pr where
 key:ByteArray
 val:ByteArray
deriving DecidableEq
structure Ci where
 key:ByteArray
 pre:ByteArray
 suf:ByteArray
 bare:Bool
deriving DecidableEq
structure At where
 id:ByteArray
 cls:List ByteArray
 aP:List Pr
deriving DecidableEq
inductive aj where
 | mk (kind:Int) (text dest title:ByteArray) (at_:At) (args:List ByteArray) (jh:List Ci) (kids:List aj)
inductive ah where
 | mk (kind level:Int) (info text dest title:ByteArray) (at_:At) (line:List aj) (kids:List ah)
def Pr.d (p:Pr):D:=.st [.str p.key,.str p.val]
def Ci.d (c:Ci):D:=.st [.str c.key,.str c.pre,.str c.suf,.bool c.bare]
def At.ds (a:At):List D:=[.str a.id,kD a.cls,.sl 2 (a.aP.map Pr.d)]
mutual
def aj.d:aj->D
 | .mk k t d ti a ar ci ks=>.st [.int .i64 k,.str t,.str d,.str ti,.st a.ds,kD ar,.sl 4 (ci.map Ci.d),.sl 10 (aj.dl ks)]
def aj.dl:List aj->List D
 | []=>[]
 | x::l=>x.d::aj.dl l
end
theorem aj.jS:∀ (l:List aj),aj.dl l=l.map aj.d
 | []=>by unfold aj.dl;rfl
 | x::l=>by rw [aj.dl,aj.jS l];rfl
mutual
def ah.d:ah->D
 | .mk k lv i t d ti a li ks=>.st [.int .i64 k,.int .i64 lv,.str i,.str t,.str d,.str ti,.st a.ds,.sl 10 (li.map aj.d),.sl 11 (ah.dl ks)]
def ah.dl:List ah->List D
 | []=>[]
 | x::l=>x.d::ah.dl l
end
theorem ah.jS:∀ (l:List ah),ah.dl l=l.map ah.d
 | []=>by unfold ah.dl;rfl
 | x::l=>by rw [ah.dl,ah.jS l];rfl
def bq (l:List aj):D:=.sl 10 (l.map aj.d)
def bZ (l:List ah):D:=.sl 11 (l.map ah.d)
def bD (l:List Pr):D:=.sl 2 (l.map Pr.d)
def Nl (l:List Ci):D:=.sl 4 (l.map Ci.d)
variable {ok:Nat->Prop} {w:jqz}
theorem Pr.open_ {p:Pr} {cs:List jr1} (h:Rd ok w p.d cs):cs=[.string p.key,.string p.val]:=by unfold Pr.d at h;obtain ⟨_,g0,rfl⟩:=h.oL;obtain ⟨_,_,rfl,h1,g1⟩:=g0.aG;obtain ⟨_,_,rfl,h2,g2⟩:=g1.aG;obtain rfl:=g2.eT;obtain rfl:=h1.bC;obtain rfl:=h2.bC;rfl
theorem Ci.open_ {p:Ci} {cs:List jr1} (h:Rd ok w p.d cs):cs=[.string p.key,.string p.pre,.string p.suf,.bool p.bare]:=by unfold Ci.d at h;obtain ⟨_,g0,rfl⟩:=h.oL;obtain ⟨_,_,rfl,h1,g1⟩:=g0.aG;obtain ⟨_,_,rfl,h2,g2⟩:=g1.aG;obtain ⟨_,_,rfl,h3,g3⟩:=g2.aG;obtain ⟨_,_,rfl,h4,g4⟩:=g3.aG;obtain rfl:=g4.eT;obtain rfl:=h1.bC;obtain rfl:=h2.bC;obtain rfl:=h3.bC;obtain rfl:=h4.Mr;rfl
theorem Pr.iH (ok:Nat->Prop) (w:jqz) (p:Pr):Rd ok w p.d [.string p.key,.string p.val]:=
 Rd.Bv (rows:=[[.string p.key],[.string p.val]]) (.cons (Rd.dR _ _ _) (.cons (Rd.dR _ _ _) .none))
theorem Ci.iH (ok:Nat->Prop) (w:jqz) (p:Ci):Rd ok w p.d [.string p.key,.string p.pre,.string p.suf,.bool p.bare]:=
 Rd.Bv (rows:=[[.string p.key],[.string p.pre],[.string p.suf],[.bool p.bare]]) (.cons (Rd.dR _ _ _) (.cons (Rd.dR _ _ _) (.cons (Rd.dR _ _ _) (.cons (Rd.Uo _ _ _) .none))))
theorem Rd.qz {k:Nat} {l:List D} {cs:List jr1} (h:Rd ok w (.sl k l) cs):∃ v,cs=[v]/\Rd ok w (.sl k l) [v]:=by obtain ⟨a,cap,rfl,_⟩:=h.aC;exact ⟨_,rfl,h⟩
structure AtR (ok:Nat->Prop) (w:jqz) (a:At) (vc vp:jr1):Prop where
 cls:Rd ok w (kD a.cls) [vc]
 aP:Rd ok w (bD a.aP) [vp]
theorem At.open_ {a:At} {cs:List jr1} (h:Rd ok w (.st a.ds) cs):∃ vc vp,cs=[.string a.id,vc,vp]/\AtR ok w a vc vp:=by unfold At.ds at h;obtain ⟨_,g0,rfl⟩:=h.oL;obtain ⟨_,_,rfl,h1,g1⟩:=g0.aG;obtain ⟨_,_,rfl,h2,g2⟩:=g1.aG;obtain ⟨_,_,rfl,h3,g3⟩:=g2.aG;obtain ⟨vc,rfl,h2⟩:=Rd.qz h2;obtain ⟨vp,rfl,h3⟩:=Rd.qz h3;obtain rfl:=g3.eT;obtain rfl:=h1.bC;exact ⟨vc,vp,rfl,h2,h3⟩
theorem At.iH {a:At} {vc vp:jr1} (h:AtR ok w a vc vp):Rd ok w (.st a.ds) [.string a.id,vc,vp]:=
 Rd.Bv (rows:=[[.string a.id],[vc],[vp]]) (.cons (Rd.dR _ _ _) (.cons h.cls (.cons h.aP .none)))
structure wI (ok:Nat->Prop) (w:jqz) (at_:At) (args:List ByteArray) (jh:List Ci) (kids:List aj) (vc vp va vi vk:jr1):Prop where
 at_:AtR ok w at_ vc vp
 args:Rd ok w (kD args) [va]
 jh:Rd ok w (Nl jh) [vi]
 kids:Rd ok w (bq kids) [vk]
theorem aj.open_ {k:Int} {t d ti:ByteArray} {a:At} {ar:List ByteArray} {ci:List Ci} {ks:List aj} {cs:List jr1} (h:Rd ok w (aj.mk k t d ti a ar ci ks).d cs) : ∃ vc vp va vi vk,cs=[.int .i64 k,.string t,.string d,.string ti,.string a.id,vc,vp,va,vi,vk]/\wI ok w a ar ci ks vc vp va vi vk:=by unfold aj.d at h;obtain ⟨_,g0,rfl⟩:=h.oL;obtain ⟨_,_,rfl,h1,g1⟩:=g0.aG;obtain ⟨_,_,rfl,h2,g2⟩:=g1.aG;obtain ⟨_,_,rfl,h3,g3⟩:=g2.aG;obtain ⟨_,_,rfl,h4,g4⟩:=g3.aG;obtain ⟨_,_,rfl,h5,g5⟩:=g4.aG;obtain ⟨_,_,rfl,h6,g6⟩:=g5.aG;obtain ⟨_,_,rfl,h7,g7⟩:=g6.aG;obtain ⟨_,_,rfl,h8,g8⟩:=g7.aG;obtain ⟨vc,vp,rfl,ha⟩:=At.open_ h5;obtain ⟨va,rfl,h6⟩:=Rd.qz h6;obtain ⟨vi,rfl,h7⟩:=Rd.qz h7;obtain ⟨vk,rfl,h8⟩:=Rd.qz h8;rw [aj.jS] at h8;obtain rfl:=g8.eT;obtain rfl:=h1.yR;obtain rfl:=h2.bC;obtain rfl:=h3.bC;obtain rfl:=h4.bC;exact ⟨vc,vp,va,vi,vk,rfl,ha,h6,h7,h8⟩
theorem aj.iH (k:Int) (t d ti:ByteArray) {a:At} {ar:List ByteArray} {ci:List Ci} {ks:List aj} {vc vp va vi vk:jr1} (h:wI ok w a ar ci ks vc vp va vi vk) : Rd ok w (aj.mk k t d ti a ar ci ks).d [.int .i64 k,.string t,.string d,.string ti,.string a.id,vc,vp,va,vi,vk]:=by
 unfold aj.d;rw [aj.jS];exact Rd.Bv (rows:=[[.int .i64 k],[.string t],[.string d],[.string ti],[.string a.id,vc,vp],[va],[vi],[vk]])
  (.cons (Rd.Jl _ _ _ _) (.cons (Rd.dR _ _ _) (.cons (Rd.dR _ _ _) (.cons (Rd.dR _ _ _) (.cons (At.iH h.at_) (.cons h.args (.cons h.jh (.cons h.kids .none))))))))
structure mg (ok:Nat->Prop) (w:jqz) (at_:At) (line:List aj) (kids:List ah) (vc vp vl vk:jr1):Prop where
 at_:AtR ok w at_ vc vp
 line:Rd ok w (bq line) [vl]
 kids:Rd ok w (bZ kids) [vk]
theorem ah.open_ {k lv:Int} {i t d ti:ByteArray} {a:At} {li:List aj} {ks:List ah} {cs:List jr1} (h:Rd ok w (ah.mk k lv i t d ti a li ks).d cs) : ∃ vc vp vl vk,cs=[.int .i64 k,.int .i64 lv,.string i,.string t,.string d,.string ti,.string a.id,vc,vp,vl,vk]/\mg ok w a li ks vc vp vl vk:=by unfold ah.d at h;obtain ⟨_,g0,rfl⟩:=h.oL;obtain ⟨_,_,rfl,h1,g1⟩:=g0.aG;obtain ⟨_,_,rfl,h2,g2⟩:=g1.aG;obtain ⟨_,_,rfl,h3,g3⟩:=g2.aG;obtain ⟨_,_,rfl,h4,g4⟩:=g3.aG;obtain ⟨_,_,rfl,h5,g5⟩:=g4.aG;obtain ⟨_,_,rfl,h6,g6⟩:=g5.aG;obtain ⟨_,_,rfl,h7,g7⟩:=g6.aG;obtain ⟨_,_,rfl,h8,g8⟩:=g7.aG;obtain ⟨_,_,rfl,h9,g9⟩:=g8.aG;obtain ⟨vc,vp,rfl,ha⟩:=At.open_ h7;obtain ⟨vl,rfl,h8⟩:=Rd.qz h8;obtain ⟨vk,rfl,h9⟩:=Rd.qz h9;rw [ah.jS] at h9;obtain rfl:=g9.eT;obtain rfl:=h1.yR;obtain rfl:=h2.yR;obtain rfl:=h3.bC;obtain rfl:=h4.bC;obtain rfl:=h5.bC;obtain rfl:=h6.bC;exact ⟨vc,vp,vl,vk,rfl,ha,h8,h9⟩
theorem ah.iH (k lv:Int) (i t d ti:ByteArray) {a:At} {li:List aj} {ks:List ah} {vc vp vl vk:jr1} (h:mg ok w a li ks vc vp vl vk) : Rd ok w (ah.mk k lv i t d ti a li ks).d [.int .i64 k,.int .i64 lv,.string i,.string t,.string d,.string ti,.string a.id,vc,vp,vl,vk]:=by
 unfold ah.d;rw [ah.jS];exact Rd.Bv (rows:=[[.int .i64 k],[.int .i64 lv],[.string i],[.string t],[.string d],[.string ti],[.string a.id,vc,vp],[vl],[vk]])
  (.cons (Rd.Jl _ _ _ _) (.cons (Rd.Jl _ _ _ _) (.cons (Rd.dR _ _ _) (.cons (Rd.dR _ _ _) (.cons (Rd.dR _ _ _) (.cons (Rd.dR _ _ _) (.cons (At.iH h.at_) (.cons h.line (.cons h.kids .none)))))))))
open Go.RowKit
mutual
def aj.sz:aj->Nat
 | .mk _ _ _ _ _ _ _ ks=>1+aj.aW ks
def aj.aW:List aj->Nat
 | []=>0
 | x::l=>x.sz+aj.aW l
end
mutual
def ah.sz:ah->Nat
 | .mk _ _ _ _ _ _ _ _ ks=>1+ah.aW ks
def ah.aW:List ah->Nat
 | []=>0
 | x::l=>x.sz+ah.aW l
end
theorem aj.aZ:∀ (l:List aj) (k:Nat) (x:aj),l[k]?=some x->x.sz<=aj.aW l
 | [],_,_,h=>by simp at h
 | y::l,0,x,h=>by simp at h;subst h;rw [aj.aW];omega
 | y::l,k+1,x,h=>by
  have:=aj.aZ l k x (by simpa using h);rw [aj.aW];omega
theorem ah.aZ:∀ (l:List ah) (k:Nat) (x:ah),l[k]?=some x->x.sz<=ah.aW l
 | [],_,_,h=>by simp at h
 | y::l,0,x,h=>by simp at h;subst h;rw [ah.aW];omega
 | y::l,k+1,x,h=>by
  have:=ah.aZ l k x (by simpa using h);rw [ah.aW];omega
mutual
def aj.plain:aj->List UInt8
 | .mk k t d _ _ _ _ ks=>
  if k=1\/k=4\/k=5 then t.data.toList else if k=2\/k=3 then [32]
  else if k=6\/k=7\/k=8\/k=9\/k=10\/k=11 then aj.aJ ks else if k=16 then d.data.toList else []
def aj.aJ:List aj->List UInt8
 | []=>[]
 | x::l=>x.plain++aj.aJ l
end
theorem aj.yT (l m:List aj):aj.aJ (l++m)=aj.aJ l++aj.aJ m:=by
 induction l with
 | nil=>rw [aj.aJ];rfl
 | cons x l ih=>rw [List.cons_append,aj.aJ,aj.aJ,ih,List.append_assoc]
theorem aj.tH (l:List aj) (k:Nat) (x:aj) (h:l[k]?=some x):aj.aJ (l.take (k+1))=aj.aJ (l.take k)++x.plain:=by rw [List.take_add_one,h,aj.yT];simp [aj.aJ]
theorem aj.Ms (l:List aj) (k:Nat):(aj.aJ (l.take k)).length<=(aj.aJ l).length:=by have h:l=l.take k++l.drop k:=(List.take_append_drop k l).symm;have:=congrArg (fun l=>(aj.aJ l).length) h;rw [aj.yT] at this;simp at this;omega
theorem aj.Nf (l:List aj) (k:Nat) (x:aj) (h:l[k]?=some x):(aj.aJ (l.take k)).length+x.plain.length<=(aj.aJ l).length:=by have h1:=aj.Ms l (k+1);rw [aj.tH l k x h,List.length_append] at h1;exact h1
variable {ok:Nat->Prop} {w:jqz}
structure gu (w:jqz) (b o:Nat) (k:Int) (t d ti:ByteArray) (id:ByteArray) (vc vp va vi vk:jr1):Prop where
 c0:w.cell? ⟨b,o,none⟩=some (.int .i64 k)
 c1:w.cell? ⟨b,o+1,none⟩=some (.string t)
 c2:w.cell? ⟨b,o+2,none⟩=some (.string d)
 c3:w.cell? ⟨b,o+3,none⟩=some (.string ti)
 c4:w.cell? ⟨b,o+4,none⟩=some (.string id)
 c5:w.cell? ⟨b,o+5,none⟩=some vc
 c6:w.cell? ⟨b,o+6,none⟩=some vp
 c7:w.cell? ⟨b,o+7,none⟩=some va
 c8:w.cell? ⟨b,o+8,none⟩=some vi
 c9:w.cell? ⟨b,o+9,none⟩=some vk
theorem gu.of {w:jqz} {b o:Nat} {cs:List jr1} {k:Int} {t d ti id:ByteArray} {vc vp va vi vk:jr1} (hcs:cs=[.int .i64 k,.string t,.string d,.string ti,.string id,vc,vp,va,vi,vk]) (h:∀ j u,cs[j]?=some u->w.cell? ⟨b,o+j,none⟩=some u):gu w b o k t d ti id vc vp va vi vk:=by subst hcs;exact ⟨h 0 _ rfl,h 1 _ rfl,h 2 _ rfl,h 3 _ rfl,h 4 _ rfl,h 5 _ rfl,h 6 _ rfl,h 7 _ rfl,h 8 _ rfl,h 9 _ rfl⟩
theorem jl {l:List aj} {a:Option Addr} {cap:Nat} (h:mo ok w 10 (l.map aj.d) a cap) {k:Nat} {kd:Int} {t d ti:ByteArray} {at_:At} {ar:List ByteArray} {ci:List Ci} {ks:List aj} (hk:l[k]?=some (.mk kd t d ti at_ ar ci ks)) : ∃ b off vc vp va vi vk,a=some ⟨b,off,none⟩/\ok b/\b<w.heap.size/\gu w b (off+k*10) kd t d ti at_.id vc vp va vi vk/\wI ok w at_ ar ci ks vc vp va vi vk:=by
 have hlt:k<l.length:=(List.getElem?_eq_some_iff.1 hk).1;obtain ⟨b,off,ha,hok,hb,hc⟩:=h.at_ (by simpa using Nat.lt_of_le_of_lt (jo7 _) hlt)
 obtain ⟨r,hr,hl,hcell⟩:=hc k _ (by rw [List.getElem?_map,hk];rfl);obtain ⟨vc,vp,va,vi,vk,hcs,hR⟩:=aj.open_ hr;exact ⟨b,off,vc,vp,va,vi,vk,ha,hok,hb,gu.of hcs (fun j u hu=>by rw [Nat.add_assoc];exact hcell j u hu),hR⟩
structure dM (w:jqz) (b o:Nat) (k lv:Int) (i t d ti:ByteArray) (id:ByteArray) (vc vp vl vk:jr1):Prop where
 c0:w.cell? ⟨b,o,none⟩=some (.int .i64 k)
 c1:w.cell? ⟨b,o+1,none⟩=some (.int .i64 lv)
 c2:w.cell? ⟨b,o+2,none⟩=some (.string i)
 c3:w.cell? ⟨b,o+3,none⟩=some (.string t)
 c4:w.cell? ⟨b,o+4,none⟩=some (.string d)
 c5:w.cell? ⟨b,o+5,none⟩=some (.string ti)
 c6:w.cell? ⟨b,o+6,none⟩=some (.string id)
 c7:w.cell? ⟨b,o+7,none⟩=some vc
 c8:w.cell? ⟨b,o+8,none⟩=some vp
 c9:w.cell? ⟨b,o+9,none⟩=some vl
 c10:w.cell? ⟨b,o+10,none⟩=some vk
theorem dM.of {w:jqz} {b o:Nat} {cs:List jr1} {k lv:Int} {i t d ti id:ByteArray} {vc vp vl vk:jr1} (hcs:cs=[.int .i64 k,.int .i64 lv,.string i,.string t,.string d,.string ti,.string id,vc,vp,vl,vk]) (h:∀ j u,cs[j]?=some u->w.cell? ⟨b,o+j,none⟩=some u):dM w b o k lv i t d ti id vc vp vl vk:=by subst hcs;exact ⟨h 0 _ rfl,h 1 _ rfl,h 2 _ rfl,h 3 _ rfl,h 4 _ rfl,h 5 _ rfl,h 6 _ rfl,h 7 _ rfl,h 8 _ rfl,h 9 _ rfl,h 10 _ rfl⟩
theorem iA {l:List ah} {a:Option Addr} {cap:Nat} (h:mo ok w 11 (l.map ah.d) a cap) {k:Nat} {kd lv:Int} {i t d ti:ByteArray} {at_:At} {li:List aj} {ks:List ah} (hk:l[k]?=some (.mk kd lv i t d ti at_ li ks)) : ∃ b off vc vp vl vk,a=some ⟨b,off,none⟩/\ok b/\b<w.heap.size/\dM w b (off+k*11) kd lv i t d ti at_.id vc vp vl vk/\mg ok w at_ li ks vc vp vl vk:=by
 have hlt:k<l.length:=(List.getElem?_eq_some_iff.1 hk).1;obtain ⟨b,off,ha,hok,hb,hc⟩:=h.at_ (by simpa using Nat.lt_of_le_of_lt (jo7 _) hlt)
 obtain ⟨r,hr,hl,hcell⟩:=hc k _ (by rw [List.getElem?_map,hk];rfl);obtain ⟨vc,vp,vl,vk,hcs,hR⟩:=ah.open_ hr;exact ⟨b,off,vc,vp,vl,vk,ha,hok,hb,dM.of hcs (fun j u hu=>by rw [Nat.add_assoc];exact hcell j u hu),hR⟩
open Go.RowKit
set_option linter.unusedVariables false
set_option linter.unusedSimpArgs false
theorem Ev (k:Int):(k=1\/k=4\/k=5)\/(k=2\/k=3)\/(k=6\/k=7\/k=8\/k=9\/k=10\/k=11)\/k=16\/(k≠1/\k≠4/\k≠5/\k≠2/\k≠3/\k≠6/\k≠7/\k≠8/\k≠9/\k≠10/\k≠11/\k≠16):=by omega
open Go.RowKit
theorem vP {a b:Bool} (h:a=b):Ending.returned (.bool a)=.returned (.bool b):=by rw [h]
theorem ku {a b:Int} (h:a=b):Ending.returned (.int .i64 a)=.returned (.int .i64 b):=by rw [h]
theorem Eo (c:Nat) (w:jqz) (hc:c<=1114111) : Calls Tryz.prog 234 #[.int .i64 (c:Int)] w fun e w'=>e=.returned (.bool (YZ c))/\w=w':=by
 go_enter Tryz.func234,Tryz.ntmps234;go_wp2;all_goals
  go_ret;refine ⟨vP ?_,rfl⟩;unfold YZ
  (try simp only [beq_iff_eq,beq_eq_false_iff_ne,ne_eq] at *)
  rw [jo0];simp;omega
theorem EG (c:Nat) (w:jqz) (hc:c<=1114111) : Calls Tryz.prog 206 #[.int .i64 (c:Int)] w fun e w'=>e=.returned (.bool (Nj c))/\w=w':=by
 go_enter Tryz.func206,Tryz.ntmps206;go_wp2;all_goals
  go_ret;refine ⟨vP ?_,rfl⟩;unfold Nj qC;rw [jo0];simp
  (try omega)
theorem Cb (c:Nat) (w:jqz) (hc:c<=1114111) : Calls Tryz.prog 205 #[.int .i64 (c:Int)] w fun e w'=>e=.returned (.bool (qK c))/\w=w':=by
 go_enter Tryz.func205,Tryz.ntmps205;go_wp2;all_goals
  go_ret;refine ⟨vP ?_,rfl⟩;unfold qK qC
  (try simp only [beq_iff_eq,beq_eq_false_iff_ne,ne_eq] at *)
  simp;omega
theorem Ep (c:Nat) (w:jqz) (hc:c<=1114111) : Calls Tryz.prog 237 #[.int .i64 (c:Int)] w fun e w'=>e=.returned (.int .i64 (kN c:Nat))/\w=w':=by
 go_enter Tryz.func237,Tryz.ntmps237;go_wp2;all_goals
  go_ret;refine ⟨ku ?_,rfl⟩;unfold kN
  (try simp only [bne_iff_ne,bne_eq_false_iff_eq,ne_eq] at *)
  (repeat' split)<;>omega
open Go.RowKit
theorem vI {k:IntKind} {a b:Int} (h:a=b):Ending.returned (.int k a)=.returned (.int k b):=by rw [h]
theorem QC (s:ByteArray) (i low high:Nat) (w:jqz) (hs:s.size<=9223372036854775807) (hl:low<256) (hh:high<256) (hi:i<9223372036854775807) : Calls Tryz.prog 188 #[.string s,.int .i64 i,.int .i64 low,.int .i64 high] w fun e w'=>e=.returned (.int .i64 (mW s i low high))/\w=w':=by
 obtain ⟨V,hV⟩:∃ V,V=mW s i low high:=⟨_,rfl⟩;rw [<- hV];unfold mW at hV;have HV:=hid hV;clear hV;have hb:=fq s i;by_cases h1:i<s.size
 ·have hw:wrap64 (s[i].toNat:Int)=(bt s i:Int):=by rw [o9 s i h1];exact IntWalk.wrap64_in _ ⟨by omega,by omega⟩
  by_cases h2:low<=bt s i
  ·by_cases h3:bt s i<=high
   ·go_enter Tryz.func188,Tryz.ntmps188;go_wp2;go_ret;exact ⟨vI (by rw [HV.out,if_pos ⟨h1,h2,h3⟩]),rfl⟩
   ·go_enter Tryz.func188,Tryz.ntmps188;go_wp2;go_ret;exact ⟨vI (by rw [HV.out,if_neg (by omega)]),rfl⟩
  ·go_enter Tryz.func188,Tryz.ntmps188;go_wp2;go_ret;exact ⟨vI (by rw [HV.out,if_neg (by omega)]),rfl⟩
 ·go_enter Tryz.func188,Tryz.ntmps188;go_wp2;go_ret;exact ⟨vI (by rw [HV.out,if_neg (by omega)]),rfl⟩
theorem yU {a b c d:Int} (h1:a=c) (h2:b=d):Ending.returned (.agg #[.int .i64 a,.int .i64 b])=.returned (.agg #[.int .i64 c,.int .i64 d]):=by rw [h1,h2]
def YG (s:ByteArray) (i low high v:Int):Prop:=
 ∀ w:jqz,Calls Tryz.prog 188 #[.string s,.int .i64 i,.int .i64 low,.int .i64 high] w fun e w'=>e=.returned (.int .i64 v)/\w=w'
theorem oN (s:ByteArray) (i low high:Nat) (j:Int) (hj:j=(i:Int)) (hs:s.size<=140737488355328) (hl:low<256) (hh:high<256) (hi:i<9223372036854775807):YG s j low high (mW s i low high):=by subst hj;exact fun w=>QC s i low high w (by omega) hl hh hi
theorem Mt (s:ByteArray) (i:Nat) (w:jqz) (hs:s.size<=140737488355328) (hi:i<s.size) (h1:224<=bt s i) (h2:bt s i<=239) : Calls Tryz.prog 189 #[.string s,.int .i64 i] w fun e w'=>e=.returned (.agg #[.int .i64 (Utf8.decode s i).1,.int .i64 (Utf8.decode s i).2])/\Below w.heap.size w w':=by
 obtain ⟨D1,D2⟩:=Ah s i hi h1 h2;generalize hb:bt s i=b at *;have hw:wrap64 (s[i].toNat:Int)=(b:Int):=by rw [o9 s i hi,hb];exact IntWalk.wrap64_in _ ⟨by omega,by omega⟩
 clear hb;have x1:=lZ s (i+1) (iy b) (jA b) (by unfold iy;split<;>(try split)<;>omega);have y1:=lZ s (i+2) 128 191 (by omega);have M1:=oN s (i+1) (iy b) (jA b) (↑i+1) (by omega) hs (by unfold iy;split<;>(try split)<;>omega) (by unfold jA;split<;>(try split)<;>omega) (by omega);have M2:=oN s (i+2) 128 191 (↑i+2) (by omega) hs (by omega) (by omega) (by omega);generalize mW s (i+1) (iy b) (jA b)=x at *;generalize mW s (i+2) 128 191=y at *;generalize Utf8.decode s i=d at *;obtain ⟨d1,d2⟩:=d;have k:(((b:Int)==224)=true/\((b:Int)==237)=false/\iy b=160/\jA b=191)\/(((b:Int)==224)=false/\((b:Int)==237)=true/\iy b=128/\jA b=159) \/
   (((b:Int)==224)=false/\((b:Int)==237)=false/\iy b=128/\jA b=191):=by
  unfold iy jA;by_cases k1:b=224
  ·left;subst k1;simp
  ·by_cases k2:b=237
   ·right;left;subst k2;simp
   ·right;right;refine ⟨by simp;omega,by simp;omega,?_,?_⟩<;>repeat (first | rw [if_neg (by omega)])
 have E1:=hid D1;have E2:=hid D2;clear D1 D2;rcases k with ⟨k1,k2,k3,k4⟩ | ⟨k1,k2,k3,k4⟩ | ⟨k1,k2,k3,k4⟩
 all_goals
  rw [k3,k4] at M1;clear k3 k4;go_enter Tryz.func189,Tryz.ntmps189;go_wp2_with fail
  refine (M1 _).mono ?_;rintro e w' ⟨rfl,rfl⟩;go_wp2_with fail
  refine (M2 _).mono ?_;rintro e w' ⟨rfl,rfl⟩;by_cases hx:x<0
  ·go_wp2;refine bodyPost_ret (v:=.agg #[.int .i64 65533,.int .i64 1]) (by simp [results,Tryz.results189,go_sem]) rfl ⟨?_,(jnk _ _).alloc (jnq _) _⟩;obtain ⟨rfl,rfl⟩:=Prod.mk.inj (E1.out (.inl hx));rfl
  ·by_cases hy:y<0
   ·go_wp2;refine bodyPost_ret (v:=.agg #[.int .i64 65533,.int .i64 1]) (by simp [results,Tryz.results189,go_sem]) rfl ⟨?_,(jnk _ _).alloc (jnq _) _⟩;obtain ⟨rfl,rfl⟩:=Prod.mk.inj (E1.out (.inr hy));rfl
   ·go_wp2;refine bodyPost_ret (v:=.agg #[.int .i64 ((b-224)*4096+x*64+y),.int .i64 3]) (by simp [results,Tryz.results189,go_sem]) rfl ⟨?_,(jnk _ _).alloc (jnq _) _⟩;obtain ⟨r1,r2⟩:=E2.out (by omega) (by omega);exact yU r1 (by simp only [r2];rfl)
theorem QD (s:ByteArray) (i:Nat) (w:jqz) (hs:s.size<=140737488355328) (hi:i<s.size) (h1:240<=bt s i) (h2:bt s i<=244) : Calls Tryz.prog 190 #[.string s,.int .i64 i] w fun e w'=>e=.returned (.agg #[.int .i64 (Utf8.decode s i).1,.int .i64 (Utf8.decode s i).2])/\Below w.heap.size w w':=by
 obtain ⟨D1,D2⟩:=EA s i hi h1 h2;generalize hb:bt s i=b at *;have hw:wrap64 (s[i].toNat:Int)=(b:Int):=by rw [o9 s i hi,hb];exact IntWalk.wrap64_in _ ⟨by omega,by omega⟩
 clear hb;have x1:=lZ s (i+1) (iy b) (jA b) (by unfold iy;split<;>(try split)<;>omega);have y1:=lZ s (i+2) 128 191 (by omega);have z1:=lZ s (i+3) 128 191 (by omega);have M1:=oN s (i+1) (iy b) (jA b) (↑i+1) (by omega) hs (by unfold iy;split<;>(try split)<;>omega) (by unfold jA;split<;>(try split)<;>omega) (by omega);have M2:=oN s (i+2) 128 191 (↑i+2) (by omega) hs (by omega) (by omega) (by omega);have M3:=oN s (i+3) 128 191 (↑i+3) (by omega) hs (by omega) (by omega) (by omega);generalize mW s (i+1) (iy b) (jA b)=x at *;generalize mW s (i+2) 128 191=y at *;generalize mW s (i+3) 128 191=z at *;generalize Utf8.decode s i=d at *;obtain ⟨d1,d2⟩:=d;have k:(((b:Int)==240)=true/\((b:Int)==244)=false/\iy b=144/\jA b=191)\/(((b:Int)==240)=false/\((b:Int)==244)=true/\iy b=128/\jA b=143) \/
   (((b:Int)==240)=false/\((b:Int)==244)=false/\iy b=128/\jA b=191):=by
  unfold iy jA;by_cases k1:b=240
  ·left;subst k1;simp
  ·by_cases k2:b=244
   ·right;left;subst k2;simp
   ·right;right;refine ⟨by simp;omega,by simp;omega,?_,?_⟩<;>repeat (first | rw [if_neg (by omega)])
 have E1:=hid D1;have E2:=hid D2;clear D1 D2;rcases k with ⟨k1,k2,k3,k4⟩ | ⟨k1,k2,k3,k4⟩ | ⟨k1,k2,k3,k4⟩
 all_goals
  rw [k3,k4] at M1;clear k3 k4;go_enter Tryz.func190,Tryz.ntmps190;go_wp2_with fail
  refine (M1 _).mono ?_;rintro e w' ⟨rfl,rfl⟩;go_wp2_with fail
  refine (M2 _).mono ?_;rintro e w' ⟨rfl,rfl⟩;go_wp2_with fail
  refine (M3 _).mono ?_;rintro e w' ⟨rfl,rfl⟩;by_cases hn:x<0\/y<0\/z<0
  ·obtain ⟨rfl,rfl⟩:=Prod.mk.inj (E1.out hn);by_cases hx:x<0
   ·go_wp2;exact bodyPost_ret (v:=.agg #[.int .i64 65533,.int .i64 1]) (by simp [results,Tryz.results190,go_sem]) rfl ⟨rfl,(jnk _ _).alloc (jnq _) _⟩
   ·by_cases hy:y<0
    ·go_wp2;exact bodyPost_ret (v:=.agg #[.int .i64 65533,.int .i64 1]) (by simp [results,Tryz.results190,go_sem]) rfl ⟨rfl,(jnk _ _).alloc (jnq _) _⟩
    ·have hz:z<0:=by omega
     go_wp2;exact bodyPost_ret (v:=.agg #[.int .i64 65533,.int .i64 1]) (by simp [results,Tryz.results190,go_sem]) rfl ⟨rfl,(jnk _ _).alloc (jnq _) _⟩
  ·have hx:0<=x:=by omega
   have hy:0<=y:=by omega
   have hz:0<=z:=by omega
   clear hn;go_wp2;refine bodyPost_ret (v:=.agg #[.int .i64 ((b-240)*262144+x*4096+y*64+z),.int .i64 4]) (by simp [results,Tryz.results190,go_sem]) rfl ⟨?_,(jnk _ _).alloc (jnq _) _⟩;obtain ⟨r1,r2⟩:=E2.out hx hy hz;exact yU r1 (by simp only [r2];rfl)
open Go.RowKit
def YH (f:Nat) (s:ByteArray) (i:Int) (d1 d2:Int):Prop:=
 ∀ w:jqz,Calls Tryz.prog f #[.string s,.int .i64 i] w fun e w'=>e=.returned (.agg #[.int .i64 d1,.int .i64 d2])/\Below w.heap.size w w'
theorem V3 {W w1:jqz} (hb:Below W.heap.size W w1):(∀ b o,b<W.heap.size->w1.cell? ⟨b,o,none⟩=W.cell? ⟨b,o,none⟩)/\(∀ b o,b<W.heap.size->w1.frozen? ⟨b,o,none⟩=W.frozen? ⟨b,o,none⟩):=
 ⟨fun b o h=>hb.cell (p:=⟨b,o,none⟩) h,fun b o h=>hb.frozen (p:=⟨b,o,none⟩) h⟩
theorem YF (s:ByteArray) (i:Nat) (hs:s.size<=140737488355328) (hi:i<s.size) : YH 150 s i (Utf8.decode s i).1 (Utf8.decode s i).2:=by
 intro w;have hbl:=fq s i;have hw:wrap64 (s[i].toNat:Int)=(bt s i:Int):=by rw [o9 s i hi];exact IntWalk.wrap64_in _ ⟨by omega,by omega⟩
 by_cases c1:bt s i<128
 ·rw [uX s i c1];go_enter Tryz.func150,Tryz.ntmps150;go_wp2;exact bodyPost_ret (v:=.agg #[.int .i64 (bt s i),.int .i64 1]) (by simp [results,Tryz.results150,go_sem]) rfl ⟨rfl,(jnk _ _).alloc (jnq _) _⟩
 by_cases c2:bt s i<194
 ·rw [uY s i (by omega) (.inl c2)];go_enter Tryz.func150,Tryz.ntmps150;go_wp2;exact bodyPost_ret (v:=.agg #[.int .i64 65533,.int .i64 1]) (by simp [results,Tryz.results150,go_sem]) rfl ⟨rfl,(jnk _ _).alloc (jnq _) _⟩
 by_cases c3:bt s i<=223
 ·obtain ⟨D1,D2⟩:=uW s i hi (by omega) c3;have x1:=lZ s (i+1) 128 191 (by omega);have M1:=oN s (i+1) 128 191 (↑i+1) (by omega) hs (by omega) (by omega) (by omega);generalize mW s (i+1) 128 191=x at *;generalize Utf8.decode s i=d at *;obtain ⟨d1,d2⟩:=d;have E1:=hid D1;have E2:=hid D2;clear D1 D2;go_enter Tryz.func150,Tryz.ntmps150;go_wp2_with fail
  refine (M1 _).mono ?_;rintro e w' ⟨rfl,rfl⟩;by_cases hx:x<0
  ·obtain ⟨rfl,rfl⟩:=Prod.mk.inj (E1.out hx);go_wp2;exact bodyPost_ret (v:=.agg #[.int .i64 65533,.int .i64 1]) (by simp [results,Tryz.results150,go_sem]) rfl ⟨rfl,(jnk _ _).alloc (jnq _) _⟩
  ·go_wp2;refine bodyPost_ret (v:=.agg #[.int .i64 ((bt s i-192)*64+x),.int .i64 2]) (by simp [results,Tryz.results150,go_sem]) rfl ⟨?_,(jnk _ _).alloc (jnq _) _⟩;obtain ⟨r1,r2⟩:=E2.out (by omega);exact yU r1 (by simp only [r2];rfl)
 by_cases c4:bt s i<=239
 ·have T:=(Mt s i · hs hi (by omega) c4);generalize Utf8.decode s i=d at *;obtain ⟨d1,d2⟩:=d;have T:=hid T;go_enter Tryz.func150,Tryz.ntmps150;go_wp2_with fail
  refine (T.out _).mono ?_;rintro e w' ⟨rfl,hb⟩;obtain ⟨hc,hf⟩:=V3 hb;go_wp2;refine bodyPost_ret (v:=.agg #[.int .i64 d1,.int .i64 d2]) (by simp [results,Tryz.results150,go_sem,hc]) rfl ⟨rfl,?_⟩;exact ((((jnk _ _).alloc (jnq _) _).trans (hb.mono (by simp))).setCell (by simp) _).setCell (by simp) _
 by_cases c5:bt s i<=244
 ·have T:=(QD s i · hs hi (by omega) c5);generalize Utf8.decode s i=d at *;obtain ⟨d1,d2⟩:=d;have T:=hid T;go_enter Tryz.func150,Tryz.ntmps150;go_wp2_with fail
  refine (T.out _).mono ?_;rintro e w' ⟨rfl,hb⟩;obtain ⟨hc,hf⟩:=V3 hb;go_wp2;refine bodyPost_ret (v:=.agg #[.int .i64 d1,.int .i64 d2]) (by simp [results,Tryz.results150,go_sem,hc]) rfl ⟨rfl,?_⟩;exact ((((jnk _ _).alloc (jnq _) _).trans (hb.mono (by simp))).setCell (by simp) _).setCell (by simp) _
 rw [uY s i (by omega) (.inr (by omega))];go_enter Tryz.func150,Tryz.ntmps150;go_wp2;exact bodyPost_ret (v:=.agg #[.int .i64 65533,.int .i64 1]) (by simp [results,Tryz.results150,go_sem]) rfl ⟨rfl,(jnk _ _).alloc (jnq _) _⟩
open Go.RowKit
open Go.RowKit
def jY (c:Nat):Bool:=qC c 97 122||qC c 65 90
def Rz (c:Nat):Bool:=(decide (c=45)||decide (c=95)||decide (c=46)||decide (c=58))||(jY c||qC c 48 57)
theorem uI (c:Nat) (w:jqz) (hc:c<256) : Calls Tryz.prog 96 #[.int .u8 (c:Int)] w fun e w'=>e=.returned (.bool (jY c))/\w=w':=by
 go_enter Tryz.func96,Tryz.ntmps96;go_wp2;all_goals
  go_ret;refine ⟨vP ?_,rfl⟩;unfold jY qC;rw [jo0];simp
  (try omega)
theorem yx (c:Nat) (w:jqz) (hc:c<256) : Calls Tryz.prog 149 #[.int .u8 (c:Int)] w fun e w'=>e=.returned (.bool (Rz c))/\w=w':=by
 have LT:=hid (fun w=>uI c w hc);by_cases h:c=45\/c=95\/c=46\/c=58
 ·have hv:Rz c=true:=by unfold Rz;rcases h with h | h | h | h<;>simp [h]
  rw [hv];clear hv;rcases h with rfl | rfl | rfl | rfl
  all_goals
   go_enter Tryz.func149,Tryz.ntmps149;go_wp2;go_ret;exact ⟨rfl,rfl⟩
 ·have e1:((c:Int)==45)=false:=by rw [beq_eq_false_iff_ne];omega
  have e2:((c:Int)==95)=false:=by rw [beq_eq_false_iff_ne];omega
  have e3:((c:Int)==46)=false:=by rw [beq_eq_false_iff_ne];omega
  have e4:((c:Int)==58)=false:=by rw [beq_eq_false_iff_ne];omega
  have hv:Rz c=(jY c||qC c 48 57):=by unfold Rz;rw [show (decide (c=45)||decide (c=95)||decide (c=46)||decide (c=58))=false by simp;omega];rfl
  have HV:=hid hv;generalize Rz c=V at *;clear hv h;cases hl:jY c with
  | true=>
   rw [hl] at LT;go_enter Tryz.func149,Tryz.ntmps149;go_wp2_with fail
   refine (LT.out _).mono ?_;rintro e w1 ⟨rfl,rfl⟩;go_wp2;go_ret;exact ⟨by rw [HV.out,hl];rfl,rfl⟩
  | false=>
   rw [hl] at LT;rw [hl] at HV;by_cases h48:48<=c
   ·have q1:decide ((48:Int)<=(c:Int))=true:=by simp;omega
    go_enter Tryz.func149,Tryz.ntmps149;go_wp2_with fail
    refine (LT.out _).mono ?_;rintro e w1 ⟨rfl,rfl⟩;go_wp2;go_ret;refine ⟨?_,rfl⟩;rw [HV.out];refine vP ?_;rw [jo0];simp [qC];omega
   ·have q1:decide ((48:Int)<=(c:Int))=false:=by simp;omega
    go_enter Tryz.func149,Tryz.ntmps149;go_wp2_with fail
    refine (LT.out _).mono ?_;rintro e w1 ⟨rfl,rfl⟩;go_wp2;go_ret;refine ⟨?_,rfl⟩;rw [HV.out];refine vP ?_;rw [jo0];simp [qC];omega
def gP (c:UInt8):Bool:=Rz c.toNat
theorem sD (p:UInt8->Bool):∀ (l:List UInt8) (k:Nat),k<=l.length->(∀ j x,j<k->l[j]?=some x->p x=true)->(∀ x,l[k]?=some x->p x=false)->(l.takeWhile p).length=k
 | [],k,h,_,_=>by simp at h;subst h;rfl
 | x::l,0,_,_,h2=>by rw [List.takeWhile_cons,h2 x rfl];rfl
 | x::l,k+1,h,h1,h2=>by
  rw [List.takeWhile_cons,h1 0 x (by omega) rfl];simp;exact sD p l k (by simpa using h) (fun j y hj hy=>h1 (j+1) y (by omega) (by simpa using hy)) (fun y hy=>h2 y (by simpa using hy))
def Bn (s:ByteArray):Nat:=(s.data.toList.takeWhile gP).length
theorem GL (s:ByteArray) (k:Nat) (h:k<s.size):s.data.toList[k]?=some s[k]:=by rw [List.getElem?_eq_getElem (by simpa using h)];rfl
theorem Gq (s:ByteArray) (w:jqz) (hs:s.size<=1000000000) : Calls Tryz.prog 97 #[.string s,.int .i64 0] w fun e w'=>e=.returned (.int .i64 (Bn s:Nat))/\w=w':=by
 obtain ⟨V,hV⟩:∃ V,V=Bn s:=⟨_,rfl⟩;rw [<- hV];have HV:=hid hV;clear hV;go_enter Tryz.func97,Tryz.ntmps97;go_wp2
 go_loop [1] (fun vi=>∃ k:Nat,k<=s.size/\vi=.int .i64 k/\∀ j x,j<k->s.data.toList[j]?=some x->gP x=true) (fun i=>s.size-(intOf i).toNat)
 case atStart=>exact ⟨0,jo7 _,rfl,fun j x hj=>by omega⟩
 case round=>
  obtain ⟨k,hk,rfl,hall⟩:=hrel;have HA:=hid hall;clear hall;by_cases hlt:k<s.size
  ·have hgl:=UInt8.toNat_lt s[k];have IN:=hid (fun w=>yx s[k].toNat w hgl);have HG:=hid (GL s k hlt);cases hn:Rz s[k].toNat with
   | true=>
    rw [hn] at IN;have HN:=hid hn;clear hn;go_wp2_with fail
    refine (IN.out _).mono ?_;rintro e w1 ⟨rfl,rfl⟩;go_wp2
    go_round
    case rel=>
     refine ⟨k+1,by omega,by go_num,fun j x hj hx=>?_⟩;rcases Nat.lt_or_ge j k with h | h
     ·exact HA.out j x h hx
     ·have:j=k:=by omega
      subst this;rw [HG.out] at hx;obtain rfl:=Option.some.inj hx;exact HN.out
    case measure=>simp [intOf];omega
   | false=>
    rw [hn] at IN;have hw:V=k:=by rw [HV.out];exact sD gP _ k (by simpa using hk) HA.out (fun x hx=>by rw [HG.out] at hx;obtain rfl:=Option.some.inj hx;exact hn)
    have HW:=hid hw;clear hn hw;go_wp2_with fail
    refine (IN.out _).mono ?_;rintro e w1 ⟨rfl,rfl⟩;go_wp2;go_ret;exact ⟨by rw [HW.out];rfl,rfl⟩
  ·have hw:V=k:=by
    rw [HV.out];refine sD gP _ k (by simpa using hk) HA.out (fun x hx=>?_);have:=(List.getElem?_eq_some_iff.1 hx).1;have e:s.data.toList.length=s.size:=by simp
    omega
   have HW:=hid hw;clear hw;go_wp2;go_ret;exact ⟨by rw [HW.out];rfl,rfl⟩
def iU (s:ByteArray):Bool:=decide (1<=s.size)&&decide (s.size<=60)&&(match s.data.toList with | []=>false | c::_=>jY c.toNat)&&decide (Bn s=s.size)
theorem q22 (s:ByteArray) (w:jqz) (hs:s.size<=1000000000) : Calls Tryz.prog 52 #[.string s] w fun e w'=>e=.returned (.bool (iU s))/\w=w':=by
 by_cases h0:s.size=0
 ·have hv:iU s=false:=by unfold iU;simp [h0]
  rw [hv];have e0:((s.size:Int)==0)=true:=by simp [h0]
  clear hv h0;go_enter Tryz.func52,Tryz.ntmps52;go_wp2;go_ret;exact ⟨rfl,rfl⟩
 have e0:((s.size:Int)==0)=false:=by rw [beq_eq_false_iff_ne];omega
 by_cases ZC:60<s.size
 ·have hv:iU s=false:=by unfold iU;simp;omega
  rw [hv];have e1:decide ((60:Int)<(s.size:Int))=true:=by simp;omega
  clear hv;go_enter Tryz.func52,Tryz.ntmps52;go_wp2;go_ret;exact ⟨rfl,rfl⟩
 have e1:decide ((60:Int)<(s.size:Int))=false:=by simp;omega
 have hp:0<s.size:=by omega
 have hg:=GL s 0 hp;obtain ⟨c,hc⟩:∃ c,s[0]=c:=⟨_,rfl⟩;rw [hc] at hg;have hcl:=UInt8.toNat_lt c;have LT:=hid (fun w=>uI c.toNat w hcl);have WE:=hid (fun w=>Gq s w hs);have hl:s.data.toList=c::s.data.toList.tail:=by
  cases h:s.data.toList with
  | nil=>rw [h] at hg;simp at hg
  | cons a l=>rw [h] at hg;simp at hg;rw [hg];rfl
 have hv:iU s=(jY c.toNat&&decide (Bn s=s.size)):=by unfold iU;rw [hl,decide_eq_true (show 1<=s.size by omega),decide_eq_true (show s.size<=60 by omega)];rfl
 have HV:=hid hv;generalize iU s=V at *;generalize Bn s=E at *;clear hv hl hg;cases hlt:jY c.toNat with
 | false=>
  rw [hlt] at LT;rw [hlt] at HV;go_enter Tryz.func52,Tryz.ntmps52;go_wp2_with fail
  refine (LT.out _).mono ?_;rintro e w1 ⟨rfl,rfl⟩;go_wp2;go_ret;exact ⟨by rw [HV.out];rfl,rfl⟩
 | true=>
  rw [hlt] at LT;rw [hlt] at HV;go_enter Tryz.func52,Tryz.ntmps52;go_wp2_with fail
  refine (LT.out _).mono ?_;rintro e w1 ⟨rfl,rfl⟩;go_wp2_with fail
  refine (WE.out _).mono ?_;rintro e w1 ⟨rfl,rfl⟩;go_wp2;go_ret;refine ⟨?_,rfl⟩;rw [HV.out];refine vP ?_;rw [jo0];simp
  (try omega)
open Go.RowKit
end Go.Proofs.YtkfnkeflalcphaaGreatDoor

