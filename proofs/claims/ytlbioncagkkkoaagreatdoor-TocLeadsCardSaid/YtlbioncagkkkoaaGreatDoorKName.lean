/- Small laws on memory, used by the walks of this seat. Data in memory: what cells read as, whatever the types; kept while the blocks that are read stay. The document's data, as plain data and in memory. Plain functions on the document's data, and its cells for a walk. The contract of publisherref04.Plain. Contracts of chars.Space, Digit, Letter, Lower: what they are of a code point. Contracts of attr.letter, inName, wordEnd, Name. -/
import Derived.Test.YtlbioncagkkkoaaGreatDoorProg
import Derived.WalkKit
import Derived.OwnWalk
import Derived.Below
import Derived.Deep.QuietTactic
import Derived.BigQuiet
import Derived.Lib.Hide
import Derived.WalkLawsBesides
import Derived.Lib.Strings
import Derived.Test.YtlbioncagkkkoaaGreatDoorKPlFold
set_option maxHeartbeats 4000000
set_option maxRecDepth 100000
open Go.Lib (hid)
namespace Go.Proofs.YtlbioncagkkkoaaGreatDoor
open Go.RowKit
theorem q27 {B:Nat} {e:TypeId} {k:Nat} {v:Value} {n:Nat} {xs:List Value} {w w':World} (h:w.ownsRow B e k v n xs) (hb:Below w.heap.size w w'):w'.ownsRow B e k v n xs:=
 h.kept (row:=none) ⟨hb.os,hb.tape,hb.output,hb.size,fun i hi _=>hb.block i hi⟩ (by cases v.ownBlock<;>simp)
theorem below_app {B:Nat} {w wr w1:World} {e:TypeId} {k:Nat} {v:Value} {n:Nat} {xs:List Value} {o:Obj} (hbel:Below B w wr) (hB:B<=wr.heap.size) (hown:wr.ownsRow B e k v n xs)
  (hg:(wr.alloc o).grownBy w1 v.ownBlock):Below B w w1:=
 (hbel.alloc hB o).grown hg (by simp;omega) (fun j hj=>(hown.lt j hj).1)
theorem q03 {B:Nat} {a w:World} (h:Below B a w) (q:Nat):Below B a (w.drewN q):=⟨h.os,h.tape,h.output,h.size,h.block⟩
theorem q01 {w wr w1:World} (h:Below w.heap.size w wr) (h1:Below wr.heap.size wr w1):Below w.heap.size w w1:=h.trans (h1.mono h.size)
theorem q0o (w:World) (cs:List Value) (T:TypeId):∀ j u,cs[j]?=some u->(w.alloc (.cells cs.toArray T)).cell? ((⟨w.heap.size,0,none⟩:Addr).add j)=some u:=by
 intro j u h
 have e:((⟨w.heap.size,0,none⟩:Addr).add j)=⟨w.heap.size,j,none⟩:=by
  unfold Addr.add;split<;>simp_all
 rw [e]
 have hb:(w.alloc (.cells cs.toArray T)).heap[w.heap.size]?=some (.cells cs.toArray T):=by
  show (w.heap.push _)[w.heap.size]?=_
  simp
 simp only [World.cell?,hb]
 simpa using h
theorem new_one (w:World) (v:Value) (T:TypeId):∀ j u,[v][j]?=some u->(w.alloc (.cells #[v] T)).cell? ((⟨w.heap.size,0,none⟩:Addr).add j)=some u:=q0o w [v] T
theorem own_mono {w:World} {B B':Nat} {e:TypeId} {k:Nat} {v:Value} {n:Nat} {xs:List Value} (h:w.ownsRow B e k v n xs) (hb:B'<=B):w.ownsRow B' e k v n xs:=by
 obtain ⟨h1,h2⟩:=h
 refine ⟨h1,?_⟩
 rcases h2 with h2 | ⟨g,cap,cur,r1,r2,r3⟩
 ·exact .inl h2
 ·exact .inr ⟨g,cap,cur,r1,Nat.le_trans hb r2,r3⟩
theorem own_form {w:World} {B:Nat} {e:TypeId} {k:Nat} {v:Value} {n:Nat} {xs:List Value} (h:w.ownsRow B e k v n xs) (hn:0<n):∃ g cap,v=.slice (some ⟨g,0,none⟩) n cap/\n<=cap:=by
 rcases h.2 with ⟨_,h2⟩ | ⟨g,cap,cur,r1,r2,r3,r4,_⟩
 ·omega
 ·exact ⟨g,cap,r1,r4⟩
theorem q05 {a b c:World} {row:Option Nat} (h:a.grownBy b row) (k:b.grownBy c row):a.grownBy c row:=
 ⟨k.os.trans h.os,k.tape.trans h.tape,k.output.trans h.output,Nat.le_trans h.size k.size,fun i hi hr=>(k.block i (Nat.lt_of_lt_of_le hi h.size) hr).trans (h.block i hi hr)⟩
theorem grown_drew {a b:World} {row:Option Nat} (h:a.grownBy b row):a.grownBy b.drew row:=⟨h.os,h.tape,h.output,h.size,h.block⟩
theorem q0c {w:World} {b o:Nat} {v:Value} (h:w.cell? ⟨b,o,none⟩=some v):b<w.heap.size:=by
 refine Nat.lt_of_not_le fun hle=>?_
 have:w.heap[b]?=none:=by rw [Array.getElem?_eq_none_iff];exact hle
 simp [World.cell?,this] at h
theorem past {w:World} {b off:Nat} {v:Value} (h:w.cell? ⟨b,off,none⟩=some v) (o:Obj):(w.alloc o).cell? ⟨b,off,none⟩=some v:=
 (World.cell?_of_block (w:=w) (a:=⟨b,off,none⟩) (Below.heap_alloc w o b (q0c h))).trans h
def Sees (w:World) (k:Nat) (v:Value) (n:Nat) (xs:List Value):Prop:=
 xs.length=n*k/\∃ a cap,v=.slice a n cap/\n<=cap/\cap<=maxLen/\(n=0\/∃ b off,a=some ⟨b,off,none⟩/\∀ j u,xs[j]?=some u->w.cell? ⟨b,off+j,none⟩=some u)
theorem Sees.of_own {w:World} {B:Nat} {e:TypeId} {k:Nat} {v:Value} {n:Nat} {xs:List Value} (h:w.ownsRow B e k v n xs):Sees w k v n xs:=by
 obtain ⟨h1,h2⟩:=h
 refine ⟨h1,?_⟩
 rcases h2 with ⟨rfl,rfl⟩ | ⟨g,cap,cur,rfl,hg,hb,hn,hm,hcs,hx⟩
 ·exact ⟨none,0,rfl,Nat.le_refl _,Nat.zero_le _,.inl rfl⟩
 ·refine ⟨_,cap,rfl,hn,hm,.inr ⟨g,0,rfl,fun j u hu=>?_⟩⟩
  have hown:w.ownsRow B e k (.slice (some ⟨g,0,none⟩) n cap) n xs:=⟨h1,.inr ⟨g,cap,cur,rfl,hg,hb,hn,hm,hcs,hx⟩⟩
  have:=hown.cells rfl j u hu
  rw [Nat.zero_add]
  rw [<- this]
  congr 1
  unfold Addr.add;split<;>simp_all
open Go.RowKit
inductive D where
 | int (k:IntKind) (n:Int)
 | bool (b:Bool)
 | str (s:ByteArray)
 | st (fs:List D)
 | sl (k:Nat) (l:List D)
mutual
def Rd (ok:Nat->Prop) (w:World):D->List Value->Prop
 | .int k n,cs=>cs=[.int k n]
 | .bool b,cs=>cs=[.bool b]
 | .str s,cs=>cs=[.string s]
 | .st fs,cs=>∃ rows,RdL ok w fs rows/\cs=rows.flatten
 | .sl k l,cs=>∃ a cap rows,cs=[.slice a l.length cap]/\l.length<=cap/\cap<=maxLen/\RdL ok w l rows/\(∀ r∈rows,r.length=k) /\
   (l.length=0\/∃ b off,a=some ⟨b,off,none⟩/\ok b/\b<w.heap.size/\∀ j u,rows.flatten[j]?=some u->w.cell? ⟨b,off+j,none⟩=some u)
def RdL (ok:Nat->Prop) (w:World):List D->List (List Value)->Prop
 | [],rows=>rows=[]
 | d::ds,rows=>∃ r rs,rows=r::rs/\Rd ok w d r/\RdL ok w ds rs
end
theorem q07 {w w':World} {b:Nat} (h:w'.heap[b]?=w.heap[b]?) (o:Nat):w'.cell? ⟨b,o,none⟩=w.cell? ⟨b,o,none⟩:=World.cell?_of_block (a:=⟨b,o,none⟩) h
theorem lt_same {w w':World} {b:Nat} (h:w'.heap[b]?=w.heap[b]?) (hb:b<w.heap.size):b<w'.heap.size:=by
 rw [Array.getElem?_eq_getElem hb] at h
 exact (Array.getElem?_eq_some_iff.1 h).1
theorem q0m {w w':World} {row:Option Nat} {b o:Nat} {v:Value} (hg:w.grownBy w' row) (hc:w.cell? ⟨b,o,none⟩=some v) (hne:row≠some b):w'.cell? ⟨b,o,none⟩=some v:=by
 rw [q07 (hg.block b (q0c hc) (fun e=>hne e.symm))];exact hc
theorem q11 (w:World) (cs:List Value) (T:TypeId) (j:Nat) (u:Value) (h:cs[j]?=some u):(w.alloc (.cells cs.toArray T)).cell? ⟨w.heap.size,j,none⟩=some u:=by
 have:=q0o w cs T j u h
 have e:((⟨w.heap.size,0,none⟩:Addr).add j)=⟨w.heap.size,j,none⟩:=by unfold Addr.add;split<;>simp_all
 rwa [e] at this
theorem own_ne {w:World} {B:Nat} {e:TypeId} {k:Nat} {v:Value} {n:Nat} {xs:List Value} {b:Nat} (h:w.ownsRow B e k v n xs) (hb:w.heap.size<=b):v.ownBlock≠some b:=fun e'=>by
 have:=(h.lt b e').2;omega
def Stays (ok ok':Nat->Prop) (w w':World):Prop:=∀ b,ok b->b<w.heap.size->ok' b/\w'.heap[b]?=w.heap[b]?
mutual
theorem Rd.keep {ok ok':Nat->Prop} {w w':World} (hs:Stays ok ok' w w'):∀ (d:D) (cs:List Value),Rd ok w d cs->Rd ok' w' d cs
 | .int _ _,_,h=>by unfold Rd at h ⊢;exact h
 | .bool _,_,h=>by unfold Rd at h ⊢;exact h
 | .str _,_,h=>by unfold Rd at h ⊢;exact h
 | .st fs,_,h=>by
  unfold Rd at h ⊢
  obtain ⟨rows,hr,hc⟩:=h
  exact ⟨rows,RdL.keep hs fs rows hr,hc⟩
 | .sl k l,_,h=>by
  unfold Rd at h ⊢
  obtain ⟨a,cap,rows,h1,h2,h3,h4,h5,h6⟩:=h
  have h4':=RdL.keep hs l rows h4
  refine ⟨a,cap,rows,h1,h2,h3,h4',h5,?_⟩
  rcases h6 with h6 | ⟨b,off,h7,h8,hb,h9⟩
  ·exact .inl h6
  ·obtain ⟨k1,k2⟩:=hs b h8 hb
   refine .inr ⟨b,off,h7,k1,lt_same k2 hb,fun j u hu=>by rw [q07 k2];exact h9 j u hu⟩
theorem RdL.keep {ok ok':Nat->Prop} {w w':World} (hs:Stays ok ok' w w'):∀ (l:List D) (rows:List (List Value)),RdL ok w l rows->RdL ok' w' l rows
 | [],_,h=>by unfold RdL at h ⊢;exact h
 | d::ds,_,h=>by
  unfold RdL at h ⊢
  obtain ⟨r,rs,h1,h2,h3⟩:=h
  exact ⟨r,rs,h1,Rd.keep hs d r h2,RdL.keep hs ds rs h3⟩
end
theorem RdL.len {ok:Nat->Prop} {w:World}:∀ {l:List D} {rows:List (List Value)},RdL ok w l rows->rows.length=l.length
 | [],_,h=>by unfold RdL at h;simp [h]
 | d::ds,_,h=>by
  unfold RdL at h
  obtain ⟨r,rs,rfl,_,h3⟩:=h
  simp [RdL.len h3]
theorem RdL.get {ok:Nat->Prop} {w:World}:∀ {l:List D} {rows:List (List Value)},RdL ok w l rows->∀ (i:Nat) (d:D),l[i]?=some d->∃ r,rows[i]?=some r/\Rd ok w d r
 | [],_,h,i,d,hd=>by simp at hd
 | x::xs,_,h,i,d,hd=>by
  unfold RdL at h
  obtain ⟨r,rs,rfl,h2,h3⟩:=h
  cases i with
  | zero=>simp at hd;subst hd;exact ⟨r,rfl,h2⟩
  | succ i=>simp at hd;obtain ⟨r',h4,h5⟩:=RdL.get h3 i d hd;exact ⟨r',by simpa using h4,h5⟩
theorem RdL.app {ok:Nat->Prop} {w:World}:∀ {l m:List D} {rows rows':List (List Value)},RdL ok w l rows->RdL ok w m rows'->RdL ok w (l++m) (rows++rows')
 | [],_,_,_,h,h'=>by unfold RdL at h;subst h;exact h'
 | d::ds,_,_,_,h,h'=>by
  unfold RdL at h
  obtain ⟨r,rs,rfl,h2,h3⟩:=h
  show RdL ok w (d::(ds++_)) _
  unfold RdL
  exact ⟨r,rs++_,rfl,h2,RdL.app h3 h'⟩
theorem RdL.one {ok:Nat->Prop} {w:World} {d:D} {r:List Value} (h:Rd ok w d r):RdL ok w [d] [r]:=by
 unfold RdL;exact ⟨r,[],rfl,h,by unfold RdL;rfl⟩
theorem RdL.none {ok:Nat->Prop} {w:World}:RdL ok w [] []:=by unfold RdL;rfl
theorem RdL.cons {ok:Nat->Prop} {w:World} {d:D} {ds:List D} {r:List Value} {rs:List (List Value)} (h:Rd ok w d r) (hs:RdL ok w ds rs):RdL ok w (d::ds) (r::rs):=by
 unfold RdL;exact ⟨r,rs,rfl,h,hs⟩
theorem flat_len (k:Nat):∀ (rows:List (List Value)),(∀ r∈rows,r.length=k)->rows.flatten.length=rows.length*k
 | [],_=>by simp
 | r::rs,h=>by
  rw [List.flatten_cons,List.length_append,flat_len k rs (fun x hx=>h x (by simp [hx])),h r (by simp),List.length_cons,Nat.add_mul];omega
theorem q28 (k:Nat):∀ (rows:List (List Value)),(∀ r∈rows,r.length=k)->∀ (i j:Nat) (r:List Value) (u:Value),rows[i]?=some r->r[j]?=some u->rows.flatten[i*k+j]?=some u
 | [],_,i,j,r,u,h1,_=>by simp at h1
 | x::xs,h,i,j,r,u,h1,h2=>by
  have hx:=h x (by simp)
  rw [List.flatten_cons]
  cases i with
  | zero=>
   simp at h1;subst h1
   have hj:j<x.length:=(List.getElem?_eq_some_iff.1 h2).1
   rw [List.getElem?_append_left (by omega)]
   simpa using h2
  | succ i=>
   rw [List.getElem?_append_right (by rw [hx,Nat.add_mul];omega)]
   have e:(i+1)*k+j-x.length=i*k+j:=by rw [hx,Nat.add_mul];omega
   rw [e]
   exact q28 k xs (fun y hy=>h y (by simp [hy])) i j r u (by simpa using h1) h2
structure SlAt (ok:Nat->Prop) (w:World) (k:Nat) (l:List D) (a:Option Addr) (cap:Nat):Prop where
 le:l.length<=cap
 max:cap<=maxLen
 at_:0<l.length->∃ b off,a=some ⟨b,off,none⟩/\ok b/\b<w.heap.size/\∀ i d,l[i]?=some d->∃ r,Rd ok w d r/\r.length=k/\∀ j u,r[j]?=some u->w.cell? ⟨b,off+(i*k+j),none⟩=some u
theorem Rd.sl_open {ok:Nat->Prop} {w:World} {k:Nat} {l:List D} {cs:List Value} (h:Rd ok w (.sl k l) cs):∃ a cap,cs=[.slice a l.length cap]/\SlAt ok w k l a cap:=by
 unfold Rd at h
 obtain ⟨a,cap,rows,h1,h2,h3,h4,h5,h6⟩:=h
 refine ⟨a,cap,h1,h2,h3,fun hp=>?_⟩
 rcases h6 with h6 | ⟨b,off,h7,h8,hb,h9⟩
 ·omega
 ·refine ⟨b,off,h7,h8,hb,fun i d hd=>?_⟩
  obtain ⟨r,hr,hrd⟩:=h4.get i d hd
  exact ⟨r,hrd,h5 r (List.mem_of_getElem? hr),fun j u hu=>h9 _ u (q28 k rows h5 i j r u hr hu)⟩
theorem Rd.st_open {ok:Nat->Prop} {w:World} {fs:List D} {cs:List Value} (h:Rd ok w (.st fs) cs):∃ rows,RdL ok w fs rows/\cs=rows.flatten:=by
 unfold Rd at h;exact h
theorem Rd.st_mk {ok:Nat->Prop} {w:World} {fs:List D} {rows:List (List Value)} (h:RdL ok w fs rows):Rd ok w (.st fs) rows.flatten:=by
 unfold Rd;exact ⟨rows,h,rfl⟩
theorem RdL.cons_open {ok:Nat->Prop} {w:World} {d:D} {ds:List D} {rows:List (List Value)} (h:RdL ok w (d::ds) rows):∃ r rs,rows=r::rs/\Rd ok w d r/\RdL ok w ds rs:=by
 unfold RdL at h;exact h
theorem RdL.nil_open {ok:Nat->Prop} {w:World} {rows:List (List Value)} (h:RdL ok w [] rows):rows=[]:=by
 unfold RdL at h;exact h
theorem Rd.int_open {ok:Nat->Prop} {w:World} {k:IntKind} {n:Int} {cs:List Value} (h:Rd ok w (.int k n) cs):cs=[.int k n]:=by unfold Rd at h;exact h
theorem Rd.bool_open {ok:Nat->Prop} {w:World} {b:Bool} {cs:List Value} (h:Rd ok w (.bool b) cs):cs=[.bool b]:=by unfold Rd at h;exact h
theorem Rd.str_open {ok:Nat->Prop} {w:World} {s:ByteArray} {cs:List Value} (h:Rd ok w (.str s) cs):cs=[.string s]:=by unfold Rd at h;exact h
theorem Rd.int_mk (ok:Nat->Prop) (w:World) (k:IntKind) (n:Int):Rd ok w (.int k n) [.int k n]:=by unfold Rd;rfl
theorem Rd.bool_mk (ok:Nat->Prop) (w:World) (b:Bool):Rd ok w (.bool b) [.bool b]:=by unfold Rd;rfl
theorem Rd.str_mk (ok:Nat->Prop) (w:World) (s:ByteArray):Rd ok w (.str s) [.string s]:=by unfold Rd;rfl
theorem Rd.nil_mk (ok:Nat->Prop) (w:World) (k:Nat):Rd ok w (.sl k []) [.slice none 0 0]:=by
 unfold Rd;exact ⟨none,0,[],rfl,Nat.le_refl _,Nat.zero_le _,RdL.none,by simp,.inl rfl⟩
theorem Rd.sl_own {ok:Nat->Prop} {w:World} {B:Nat} {e:TypeId} {k:Nat} {l:List D} {v:Value} {rows:List (List Value)} (ho:w.ownsRow B e k v l.length rows.flatten) (h:RdL ok w l rows) (hk:∀ r∈rows,r.length=k)
  (hok:∀ g,v.ownBlock=some g->ok g):Rd ok w (.sl k l) [v]:=by
 have hlt:=ho.lt
 have hcl:∀ g cap,v=.slice (some ⟨g,0,none⟩) l.length cap->∀ j u,rows.flatten[j]?=some u->w.cell? ⟨g,0+j,none⟩=some u:=by
  rintro g cap rfl j u hu
  rw [Nat.zero_add,<- ho.cells rfl j u hu]
  congr 1
  unfold Addr.add;split<;>simp_all
 obtain ⟨h1,h2⟩:=ho
 rcases h2 with ⟨rfl,hx⟩ | ⟨g,cap,cur,rfl,hg,hb,hn,hm,hcs,hx⟩
 ·unfold Rd
  exact ⟨none,0,rows,by rw [hx],by omega,Nat.zero_le _,h,hk,.inl hx⟩
 ·unfold Rd
  exact ⟨_,cap,rows,rfl,hn,hm,h,hk,.inr ⟨g,0,rfl,hok g rfl,(hlt g rfl).2,hcl g cap rfl⟩⟩
def strsD (l:List ByteArray):D:=.sl 1 (l.map D.str)
theorem RdL.strs {ok:Nat->Prop} {w:World}:∀ (l:List ByteArray),RdL ok w (l.map D.str) (l.map fun s=>[Value.string s])
 | []=>RdL.none
 | s::l=>RdL.cons (Rd.str_mk ok w s) (RdL.strs l)
theorem strs_flat:∀ (l:List ByteArray),(l.map fun s=>[Value.string s]).flatten=l.map Value.string
 | []=>rfl
 | s::l=>by simp [List.flatten_cons,strs_flat l]
theorem RdL.strs_rows {ok:Nat->Prop} {w:World}:∀ (l:List ByteArray) (rows:List (List Value)),RdL ok w (l.map D.str) rows->rows=l.map fun s=>[Value.string s]
 | [],_,h=>by exact h.nil_open
 | s::l,_,h=>by
  obtain ⟨r,rs,rfl,h1,h2⟩:=h.cons_open
  rw [h1.str_open,RdL.strs_rows l rs h2];rfl
open Go.RowKit
structure Pr where
 key:ByteArray
 val:ByteArray
deriving DecidableEq
structure Ci where
 key:ByteArray
 pre:ByteArray
 suf:ByteArray
 bare:Bool
deriving DecidableEq
structure At where
 id:ByteArray
 cls:List ByteArray
 prs:List Pr
deriving DecidableEq
inductive Inl where
 | mk (kind:Int) (text dest title:ByteArray) (at_:At) (args:List ByteArray) (cites:List Ci) (kids:List Inl)
inductive Blk where
 | mk (kind level:Int) (info text dest title:ByteArray) (at_:At) (line:List Inl) (kids:List Blk)
def Pr.d (p:Pr):D:=.st [.str p.key,.str p.val]
def Ci.d (c:Ci):D:=.st [.str c.key,.str c.pre,.str c.suf,.bool c.bare]
def At.ds (a:At):List D:=[.str a.id,strsD a.cls,.sl 2 (a.prs.map Pr.d)]
mutual
def Inl.d:Inl->D
 | .mk k t d ti a ar ci ks=>.st [.int .i64 k,.str t,.str d,.str ti,.st a.ds,strsD ar,.sl 4 (ci.map Ci.d),.sl 10 (Inl.dl ks)]
def Inl.dl:List Inl->List D
 | []=>[]
 | x::l=>x.d::Inl.dl l
end
theorem Inl.dl_map:∀ (l:List Inl),Inl.dl l=l.map Inl.d
 | []=>by unfold Inl.dl;rfl
 | x::l=>by rw [Inl.dl,Inl.dl_map l];rfl
mutual
def Blk.d:Blk->D
 | .mk k lv i t d ti a li ks=>.st [.int .i64 k,.int .i64 lv,.str i,.str t,.str d,.str ti,.st a.ds,.sl 10 (li.map Inl.d),.sl 11 (Blk.dl ks)]
def Blk.dl:List Blk->List D
 | []=>[]
 | x::l=>x.d::Blk.dl l
end
theorem Blk.dl_map:∀ (l:List Blk),Blk.dl l=l.map Blk.d
 | []=>by unfold Blk.dl;rfl
 | x::l=>by rw [Blk.dl,Blk.dl_map l];rfl
def q0w (l:List Inl):D:=.sl 10 (l.map Inl.d)
def q0x (l:List Blk):D:=.sl 11 (l.map Blk.d)
def prsD (l:List Pr):D:=.sl 2 (l.map Pr.d)
def cisD (l:List Ci):D:=.sl 4 (l.map Ci.d)
variable {ok:Nat->Prop} {w:World}
theorem Pr.open_ {p:Pr} {cs:List Value} (h:Rd ok w p.d cs):cs=[.string p.key,.string p.val]:=by
 unfold Pr.d at h
 obtain ⟨_,g0,rfl⟩:=h.st_open
 obtain ⟨_,_,rfl,h1,g1⟩:=g0.cons_open
 obtain ⟨_,_,rfl,h2,g2⟩:=g1.cons_open
 obtain rfl:=g2.nil_open
 obtain rfl:=h1.str_open
 obtain rfl:=h2.str_open
 rfl
theorem Ci.open_ {p:Ci} {cs:List Value} (h:Rd ok w p.d cs):cs=[.string p.key,.string p.pre,.string p.suf,.bool p.bare]:=by
 unfold Ci.d at h
 obtain ⟨_,g0,rfl⟩:=h.st_open
 obtain ⟨_,_,rfl,h1,g1⟩:=g0.cons_open
 obtain ⟨_,_,rfl,h2,g2⟩:=g1.cons_open
 obtain ⟨_,_,rfl,h3,g3⟩:=g2.cons_open
 obtain ⟨_,_,rfl,h4,g4⟩:=g3.cons_open
 obtain rfl:=g4.nil_open
 obtain rfl:=h1.str_open
 obtain rfl:=h2.str_open
 obtain rfl:=h3.str_open
 obtain rfl:=h4.bool_open
 rfl
theorem Pr.mk_ (ok:Nat->Prop) (w:World) (p:Pr):Rd ok w p.d [.string p.key,.string p.val]:=
 Rd.st_mk (rows:=[[.string p.key],[.string p.val]]) (.cons (Rd.str_mk _ _ _) (.cons (Rd.str_mk _ _ _) .none))
theorem Ci.mk_ (ok:Nat->Prop) (w:World) (p:Ci):Rd ok w p.d [.string p.key,.string p.pre,.string p.suf,.bool p.bare]:=
 Rd.st_mk (rows:=[[.string p.key],[.string p.pre],[.string p.suf],[.bool p.bare]]) (.cons (Rd.str_mk _ _ _) (.cons (Rd.str_mk _ _ _) (.cons (Rd.str_mk _ _ _) (.cons (Rd.bool_mk _ _ _) .none))))
theorem Rd.sl_one {k:Nat} {l:List D} {cs:List Value} (h:Rd ok w (.sl k l) cs):∃ v,cs=[v]/\Rd ok w (.sl k l) [v]:=by
 obtain ⟨a,cap,rfl,_⟩:=h.sl_open
 exact ⟨_,rfl,h⟩
structure AtR (ok:Nat->Prop) (w:World) (a:At) (vc vp:Value):Prop where
 cls:Rd ok w (strsD a.cls) [vc]
 prs:Rd ok w (prsD a.prs) [vp]
theorem At.open_ {a:At} {cs:List Value} (h:Rd ok w (.st a.ds) cs):∃ vc vp,cs=[.string a.id,vc,vp]/\AtR ok w a vc vp:=by
 unfold At.ds at h
 obtain ⟨_,g0,rfl⟩:=h.st_open
 obtain ⟨_,_,rfl,h1,g1⟩:=g0.cons_open
 obtain ⟨_,_,rfl,h2,g2⟩:=g1.cons_open
 obtain ⟨_,_,rfl,h3,g3⟩:=g2.cons_open
 obtain ⟨vc,rfl,h2⟩:=Rd.sl_one h2
 obtain ⟨vp,rfl,h3⟩:=Rd.sl_one h3
 obtain rfl:=g3.nil_open
 obtain rfl:=h1.str_open
 exact ⟨vc,vp,rfl,h2,h3⟩
theorem At.mk_ {a:At} {vc vp:Value} (h:AtR ok w a vc vp):Rd ok w (.st a.ds) [.string a.id,vc,vp]:=
 Rd.st_mk (rows:=[[.string a.id],[vc],[vp]]) (.cons (Rd.str_mk _ _ _) (.cons h.cls (.cons h.prs .none)))
structure InR (ok:Nat->Prop) (w:World) (at_:At) (args:List ByteArray) (cites:List Ci) (kids:List Inl) (vc vp va vi vk:Value):Prop where
 at_:AtR ok w at_ vc vp
 args:Rd ok w (strsD args) [va]
 cites:Rd ok w (cisD cites) [vi]
 kids:Rd ok w (q0w kids) [vk]
theorem Inl.open_ {k:Int} {t d ti:ByteArray} {a:At} {ar:List ByteArray} {ci:List Ci} {ks:List Inl} {cs:List Value} (h:Rd ok w (Inl.mk k t d ti a ar ci ks).d cs) :
  ∃ vc vp va vi vk,cs=[.int .i64 k,.string t,.string d,.string ti,.string a.id,vc,vp,va,vi,vk]/\InR ok w a ar ci ks vc vp va vi vk:=by
 unfold Inl.d at h
 obtain ⟨_,g0,rfl⟩:=h.st_open
 obtain ⟨_,_,rfl,h1,g1⟩:=g0.cons_open
 obtain ⟨_,_,rfl,h2,g2⟩:=g1.cons_open
 obtain ⟨_,_,rfl,h3,g3⟩:=g2.cons_open
 obtain ⟨_,_,rfl,h4,g4⟩:=g3.cons_open
 obtain ⟨_,_,rfl,h5,g5⟩:=g4.cons_open
 obtain ⟨_,_,rfl,h6,g6⟩:=g5.cons_open
 obtain ⟨_,_,rfl,h7,g7⟩:=g6.cons_open
 obtain ⟨_,_,rfl,h8,g8⟩:=g7.cons_open
 obtain ⟨vc,vp,rfl,ha⟩:=At.open_ h5
 obtain ⟨va,rfl,h6⟩:=Rd.sl_one h6
 obtain ⟨vi,rfl,h7⟩:=Rd.sl_one h7
 obtain ⟨vk,rfl,h8⟩:=Rd.sl_one h8
 rw [Inl.dl_map] at h8
 obtain rfl:=g8.nil_open
 obtain rfl:=h1.int_open
 obtain rfl:=h2.str_open
 obtain rfl:=h3.str_open
 obtain rfl:=h4.str_open
 exact ⟨vc,vp,va,vi,vk,rfl,ha,h6,h7,h8⟩
theorem Inl.mk_ (k:Int) (t d ti:ByteArray) {a:At} {ar:List ByteArray} {ci:List Ci} {ks:List Inl} {vc vp va vi vk:Value} (h:InR ok w a ar ci ks vc vp va vi vk) :
  Rd ok w (Inl.mk k t d ti a ar ci ks).d [.int .i64 k,.string t,.string d,.string ti,.string a.id,vc,vp,va,vi,vk]:=by
 unfold Inl.d
 rw [Inl.dl_map]
 exact Rd.st_mk (rows:=[[.int .i64 k],[.string t],[.string d],[.string ti],[.string a.id,vc,vp],[va],[vi],[vk]])
  (.cons (Rd.int_mk _ _ _ _) (.cons (Rd.str_mk _ _ _) (.cons (Rd.str_mk _ _ _) (.cons (Rd.str_mk _ _ _) (.cons (At.mk_ h.at_) (.cons h.args (.cons h.cites (.cons h.kids .none))))))))
structure BlR (ok:Nat->Prop) (w:World) (at_:At) (line:List Inl) (kids:List Blk) (vc vp vl vk:Value):Prop where
 at_:AtR ok w at_ vc vp
 line:Rd ok w (q0w line) [vl]
 kids:Rd ok w (q0x kids) [vk]
theorem Blk.open_ {k lv:Int} {i t d ti:ByteArray} {a:At} {li:List Inl} {ks:List Blk} {cs:List Value} (h:Rd ok w (Blk.mk k lv i t d ti a li ks).d cs) :
  ∃ vc vp vl vk,cs=[.int .i64 k,.int .i64 lv,.string i,.string t,.string d,.string ti,.string a.id,vc,vp,vl,vk]/\BlR ok w a li ks vc vp vl vk:=by
 unfold Blk.d at h
 obtain ⟨_,g0,rfl⟩:=h.st_open
 obtain ⟨_,_,rfl,h1,g1⟩:=g0.cons_open
 obtain ⟨_,_,rfl,h2,g2⟩:=g1.cons_open
 obtain ⟨_,_,rfl,h3,g3⟩:=g2.cons_open
 obtain ⟨_,_,rfl,h4,g4⟩:=g3.cons_open
 obtain ⟨_,_,rfl,h5,g5⟩:=g4.cons_open
 obtain ⟨_,_,rfl,h6,g6⟩:=g5.cons_open
 obtain ⟨_,_,rfl,h7,g7⟩:=g6.cons_open
 obtain ⟨_,_,rfl,h8,g8⟩:=g7.cons_open
 obtain ⟨_,_,rfl,h9,g9⟩:=g8.cons_open
 obtain ⟨vc,vp,rfl,ha⟩:=At.open_ h7
 obtain ⟨vl,rfl,h8⟩:=Rd.sl_one h8
 obtain ⟨vk,rfl,h9⟩:=Rd.sl_one h9
 rw [Blk.dl_map] at h9
 obtain rfl:=g9.nil_open
 obtain rfl:=h1.int_open
 obtain rfl:=h2.int_open
 obtain rfl:=h3.str_open
 obtain rfl:=h4.str_open
 obtain rfl:=h5.str_open
 obtain rfl:=h6.str_open
 exact ⟨vc,vp,vl,vk,rfl,ha,h8,h9⟩
theorem Blk.mk_ (k lv:Int) (i t d ti:ByteArray) {a:At} {li:List Inl} {ks:List Blk} {vc vp vl vk:Value} (h:BlR ok w a li ks vc vp vl vk) :
  Rd ok w (Blk.mk k lv i t d ti a li ks).d [.int .i64 k,.int .i64 lv,.string i,.string t,.string d,.string ti,.string a.id,vc,vp,vl,vk]:=by
 unfold Blk.d
 rw [Blk.dl_map]
 exact Rd.st_mk (rows:=[[.int .i64 k],[.int .i64 lv],[.string i],[.string t],[.string d],[.string ti],[.string a.id,vc,vp],[vl],[vk]])
  (.cons (Rd.int_mk _ _ _ _) (.cons (Rd.int_mk _ _ _ _) (.cons (Rd.str_mk _ _ _) (.cons (Rd.str_mk _ _ _) (.cons (Rd.str_mk _ _ _) (.cons (Rd.str_mk _ _ _) (.cons (At.mk_ h.at_) (.cons h.line (.cons h.kids .none)))))))))
open Go.RowKit
mutual
def Inl.sz:Inl->Nat
 | .mk _ _ _ _ _ _ _ ks=>1+Inl.szL ks
def Inl.szL:List Inl->Nat
 | []=>0
 | x::l=>x.sz+Inl.szL l
end
mutual
def Blk.sz:Blk->Nat
 | .mk _ _ _ _ _ _ _ _ ks=>1+Blk.szL ks
def Blk.szL:List Blk->Nat
 | []=>0
 | x::l=>x.sz+Blk.szL l
end
theorem Inl.szL_get:∀ (l:List Inl) (k:Nat) (x:Inl),l[k]?=some x->x.sz<=Inl.szL l
 | [],_,_,h=>by simp at h
 | y::l,0,x,h=>by simp at h;subst h;rw [Inl.szL];omega
 | y::l,k+1,x,h=>by
  have:=Inl.szL_get l k x (by simpa using h)
  rw [Inl.szL];omega
theorem Blk.szL_get:∀ (l:List Blk) (k:Nat) (x:Blk),l[k]?=some x->x.sz<=Blk.szL l
 | [],_,_,h=>by simp at h
 | y::l,0,x,h=>by simp at h;subst h;rw [Blk.szL];omega
 | y::l,k+1,x,h=>by
  have:=Blk.szL_get l k x (by simpa using h)
  rw [Blk.szL];omega
variable {ok:Nat->Prop} {w:World}
structure InCells (w:World) (b o:Nat) (k:Int) (t d ti:ByteArray) (id:ByteArray) (vc vp va vi vk:Value):Prop where
 c0:w.cell? ⟨b,o,none⟩=some (.int .i64 k)
 c1:w.cell? ⟨b,o+1,none⟩=some (.string t)
 c2:w.cell? ⟨b,o+2,none⟩=some (.string d)
 c3:w.cell? ⟨b,o+3,none⟩=some (.string ti)
 c4:w.cell? ⟨b,o+4,none⟩=some (.string id)
 c5:w.cell? ⟨b,o+5,none⟩=some vc
 c6:w.cell? ⟨b,o+6,none⟩=some vp
 c7:w.cell? ⟨b,o+7,none⟩=some va
 c8:w.cell? ⟨b,o+8,none⟩=some vi
 c9:w.cell? ⟨b,o+9,none⟩=some vk
theorem InCells.of {w:World} {b o:Nat} {cs:List Value} {k:Int} {t d ti id:ByteArray} {vc vp va vi vk:Value} (hcs:cs=[.int .i64 k,.string t,.string d,.string ti,.string id,vc,vp,va,vi,vk]) (h:∀ j u,cs[j]?=some u->w.cell? ⟨b,o+j,none⟩=some u):InCells w b o k t d ti id vc vp va vi vk:=by
 subst hcs
 exact ⟨h 0 _ rfl,h 1 _ rfl,h 2 _ rfl,h 3 _ rfl,h 4 _ rfl,h 5 _ rfl,h 6 _ rfl,h 7 _ rfl,h 8 _ rfl,h 9 _ rfl⟩
theorem q1b {l:List Inl} {a:Option Addr} {cap:Nat} (h:SlAt ok w 10 (l.map Inl.d) a cap) {k:Nat} {kd:Int} {t d ti:ByteArray} {at_:At} {ar:List ByteArray} {ci:List Ci} {ks:List Inl} (hk:l[k]?=some (.mk kd t d ti at_ ar ci ks)) :
  ∃ b off vc vp va vi vk,a=some ⟨b,off,none⟩/\ok b/\b<w.heap.size/\InCells w b (off+k*10) kd t d ti at_.id vc vp va vi vk/\InR ok w at_ ar ci ks vc vp va vi vk:=by
 have hlt:k<l.length:=(List.getElem?_eq_some_iff.1 hk).1
 obtain ⟨b,off,ha,hok,hb,hc⟩:=h.at_ (by simpa using Nat.lt_of_le_of_lt (Nat.zero_le _) hlt)
 obtain ⟨r,hr,hl,hcell⟩:=hc k _ (by rw [List.getElem?_map,hk];rfl)
 obtain ⟨vc,vp,va,vi,vk,hcs,hR⟩:=Inl.open_ hr
 exact ⟨b,off,vc,vp,va,vi,vk,ha,hok,hb,InCells.of hcs (fun j u hu=>by rw [Nat.add_assoc];exact hcell j u hu),hR⟩
structure BlCells (w:World) (b o:Nat) (k lv:Int) (i t d ti:ByteArray) (id:ByteArray) (vc vp vl vk:Value):Prop where
 c0:w.cell? ⟨b,o,none⟩=some (.int .i64 k)
 c1:w.cell? ⟨b,o+1,none⟩=some (.int .i64 lv)
 c2:w.cell? ⟨b,o+2,none⟩=some (.string i)
 c3:w.cell? ⟨b,o+3,none⟩=some (.string t)
 c4:w.cell? ⟨b,o+4,none⟩=some (.string d)
 c5:w.cell? ⟨b,o+5,none⟩=some (.string ti)
 c6:w.cell? ⟨b,o+6,none⟩=some (.string id)
 c7:w.cell? ⟨b,o+7,none⟩=some vc
 c8:w.cell? ⟨b,o+8,none⟩=some vp
 c9:w.cell? ⟨b,o+9,none⟩=some vl
 c10:w.cell? ⟨b,o+10,none⟩=some vk
theorem BlCells.of {w:World} {b o:Nat} {cs:List Value} {k lv:Int} {i t d ti id:ByteArray} {vc vp vl vk:Value} (hcs:cs=[.int .i64 k,.int .i64 lv,.string i,.string t,.string d,.string ti,.string id,vc,vp,vl,vk]) (h:∀ j u,cs[j]?=some u->w.cell? ⟨b,o+j,none⟩=some u):BlCells w b o k lv i t d ti id vc vp vl vk:=by
 subst hcs
 exact ⟨h 0 _ rfl,h 1 _ rfl,h 2 _ rfl,h 3 _ rfl,h 4 _ rfl,h 5 _ rfl,h 6 _ rfl,h 7 _ rfl,h 8 _ rfl,h 9 _ rfl,h 10 _ rfl⟩
theorem q1w {l:List Blk} {a:Option Addr} {cap:Nat} (h:SlAt ok w 11 (l.map Blk.d) a cap) {k:Nat} {kd lv:Int} {i t d ti:ByteArray} {at_:At} {li:List Inl} {ks:List Blk} (hk:l[k]?=some (.mk kd lv i t d ti at_ li ks)) :
  ∃ b off vc vp vl vk,a=some ⟨b,off,none⟩/\ok b/\b<w.heap.size/\BlCells w b (off+k*11) kd lv i t d ti at_.id vc vp vl vk/\BlR ok w at_ li ks vc vp vl vk:=by
 have hlt:k<l.length:=(List.getElem?_eq_some_iff.1 hk).1
 obtain ⟨b,off,ha,hok,hb,hc⟩:=h.at_ (by simpa using Nat.lt_of_le_of_lt (Nat.zero_le _) hlt)
 obtain ⟨r,hr,hl,hcell⟩:=hc k _ (by rw [List.getElem?_map,hk];rfl)
 obtain ⟨vc,vp,vl,vk,hcs,hR⟩:=Blk.open_ hr
 exact ⟨b,off,vc,vp,vl,vk,ha,hok,hb,BlCells.of hcs (fun j u hu=>by rw [Nat.add_assoc];exact hcell j u hu),hR⟩
open Go.RowKit
set_option linter.unusedVariables false
set_option linter.unusedSimpArgs false
open Go.RowKit
theorem q0h {a b:Bool} (h:a=b):Ending.returned (.bool a)=.returned (.bool b):=by rw [h]
theorem q1x {a b:Int} (h:a=b):Ending.returned (.int .i64 a)=.returned (.int .i64 b):=by rw [h]
theorem chSpace_any (c:Nat) (w:World) (hc:c<=1114111) :
  Calls Tryz.prog 203 #[.int .i64 (c:Int)] w fun e w'=>e=.returned (.bool (spC c))/\w=w':=by
 go_enter Tryz.func203,Tryz.ntmps203
 go_wp2
 all_goals
  go_ret
  refine ⟨q0h ?_,rfl⟩
  unfold spC
  (try simp only [beq_iff_eq,beq_eq_false_iff_ne,ne_eq] at *)
  rw [Bool.eq_iff_iff]
  simp
  omega
theorem chDigit_any (c:Nat) (w:World) (hc:c<=1114111) :
  Calls Tryz.prog 161 #[.int .i64 (c:Int)] w fun e w'=>e=.returned (.bool (digC c))/\w=w':=by
 go_enter Tryz.func161,Tryz.ntmps161
 go_wp2
 all_goals
  go_ret
  refine ⟨q0h ?_,rfl⟩
  unfold digC inR
  rw [Bool.eq_iff_iff]
  simp
  (try omega)
theorem chLetter_any (c:Nat) (w:World) (hc:c<=1114111) :
  Calls Tryz.prog 160 #[.int .i64 (c:Int)] w fun e w'=>e=.returned (.bool (letterC c))/\w=w':=by
 go_enter Tryz.func160,Tryz.ntmps160
 go_wp2
 all_goals
  go_ret
  refine ⟨q0h ?_,rfl⟩
  unfold letterC inR
  (try simp only [beq_iff_eq,beq_eq_false_iff_ne,ne_eq] at *)
  simp
  omega
theorem chLower_any (c:Nat) (w:World) (hc:c<=1114111) :
  Calls Tryz.prog 207 #[.int .i64 (c:Int)] w fun e w'=>e=.returned (.int .i64 (lowerC c:Nat))/\w=w':=by
 go_enter Tryz.func207,Tryz.ntmps207
 go_wp2
 all_goals
  go_ret
  refine ⟨q1x ?_,rfl⟩
  unfold lowerC
  (try simp only [bne_iff_ne,bne_eq_false_iff_eq,ne_eq] at *)
  (repeat' split)<;>omega
open Go.RowKit
def ltrC (c:Nat):Bool:=inR c 97 122||inR c 65 90
def nmC (c:Nat):Bool:=(decide (c=45)||decide (c=95)||decide (c=46)||decide (c=58))||(ltrC c||inR c 48 57)
theorem aLetter_any (c:Nat) (w:World) (hc:c<256) :
  Calls Tryz.prog 156 #[.int .u8 (c:Int)] w fun e w'=>e=.returned (.bool (ltrC c))/\w=w':=by
 go_enter Tryz.func156,Tryz.ntmps156
 go_wp2
 all_goals
  go_ret
  refine ⟨q0h ?_,rfl⟩
  unfold ltrC inR
  rw [Bool.eq_iff_iff]
  simp
  (try omega)
theorem inName_any (c:Nat) (w:World) (hc:c<256) :
  Calls Tryz.prog 202 #[.int .u8 (c:Int)] w fun e w'=>e=.returned (.bool (nmC c))/\w=w':=by
 have LT:=hid (fun w=>aLetter_any c w hc)
 by_cases h:c=45\/c=95\/c=46\/c=58
 ·have hv:nmC c=true:=by unfold nmC;rcases h with h | h | h | h<;>simp [h]
  rw [hv]
  clear hv
  rcases h with rfl | rfl | rfl | rfl
  all_goals
   go_enter Tryz.func202,Tryz.ntmps202
   go_wp2
   go_ret
   exact ⟨rfl,rfl⟩
 ·have e1:((c:Int)==45)=false:=by rw [beq_eq_false_iff_ne];omega
  have e2:((c:Int)==95)=false:=by rw [beq_eq_false_iff_ne];omega
  have e3:((c:Int)==46)=false:=by rw [beq_eq_false_iff_ne];omega
  have e4:((c:Int)==58)=false:=by rw [beq_eq_false_iff_ne];omega
  have hv:nmC c=(ltrC c||inR c 48 57):=by
   unfold nmC
   rw [show (decide (c=45)||decide (c=95)||decide (c=46)||decide (c=58))=false by simp;omega]
   rfl
  have HV:=hid hv
  generalize nmC c=V at *
  clear hv h
  cases hl:ltrC c with
  | true=>
   rw [hl] at LT
   go_enter Tryz.func202,Tryz.ntmps202
   go_wp2_with fail
   refine (LT.out _).mono ?_
   rintro e w1 ⟨rfl,rfl⟩
   go_wp2
   go_ret
   exact ⟨by rw [HV.out,hl];rfl,rfl⟩
  | false=>
   rw [hl] at LT
   rw [hl] at HV
   by_cases h48:48<=c
   ·have q1:decide ((48:Int)<=(c:Int))=true:=by simp;omega
    go_enter Tryz.func202,Tryz.ntmps202
    go_wp2_with fail
    refine (LT.out _).mono ?_
    rintro e w1 ⟨rfl,rfl⟩
    go_wp2
    go_ret
    refine ⟨?_,rfl⟩
    rw [HV.out]
    refine q0h ?_
    rw [Bool.eq_iff_iff]
    simp [inR]
    omega
   ·have q1:decide ((48:Int)<=(c:Int))=false:=by simp;omega
    go_enter Tryz.func202,Tryz.ntmps202
    go_wp2_with fail
    refine (LT.out _).mono ?_
    rintro e w1 ⟨rfl,rfl⟩
    go_wp2
    go_ret
    refine ⟨?_,rfl⟩
    rw [HV.out]
    refine q0h ?_
    rw [Bool.eq_iff_iff]
    simp [inR]
    omega
def nmB (c:UInt8):Bool:=nmC c.toNat
theorem tw_len (p:UInt8->Bool):∀ (l:List UInt8) (k:Nat),k<=l.length->(∀ j x,j<k->l[j]?=some x->p x=true)->(∀ x,l[k]?=some x->p x=false)->(l.takeWhile p).length=k
 | [],k,h,_,_=>by simp at h;subst h;rfl
 | x::l,0,_,_,h2=>by rw [List.takeWhile_cons,h2 x rfl];rfl
 | x::l,k+1,h,h1,h2=>by
  rw [List.takeWhile_cons,h1 0 x (by omega) rfl]
  simp
  exact tw_len p l k (by simpa using h) (fun j y hj hy=>h1 (j+1) y (by omega) (by simpa using hy)) (fun y hy=>h2 y (by simpa using hy))
def wEnd0 (s:ByteArray):Nat:=(s.data.toList.takeWhile nmB).length
theorem q12 (s:ByteArray) (k:Nat) (h:k<s.size):s.data.toList[k]?=some s[k]:=by
 rw [List.getElem?_eq_getElem (by simpa using h)];rfl
theorem wordEnd_any (s:ByteArray) (w:World) (hs:s.size<=1000000000) :
  Calls Tryz.prog 157 #[.string s,.int .i64 0] w fun e w'=>e=.returned (.int .i64 (wEnd0 s:Nat))/\w=w':=by
 obtain ⟨V,hV⟩:∃ V,V=wEnd0 s:=⟨_,rfl⟩
 rw [<- hV]
 have HV:=hid hV
 clear hV
 go_enter Tryz.func157,Tryz.ntmps157
 go_wp2
 go_loop [1] (fun vi=>∃ k:Nat,k<=s.size/\vi=.int .i64 k/\∀ j x,j<k->s.data.toList[j]?=some x->nmB x=true) (fun i=>s.size-(intOf i).toNat)
 case atStart=>exact ⟨0,Nat.zero_le _,rfl,fun j x hj=>by omega⟩
 case round=>
  obtain ⟨k,hk,rfl,hall⟩:=hrel
  have HA:=hid hall
  clear hall
  by_cases hlt:k<s.size
  ·have hgl:=UInt8.toNat_lt s[k]
   have IN:=hid (fun w=>inName_any s[k].toNat w hgl)
   have HG:=hid (q12 s k hlt)
   cases hn:nmC s[k].toNat with
   | true=>
    rw [hn] at IN
    have HN:=hid hn
    clear hn
    go_wp2_with fail
    refine (IN.out _).mono ?_
    rintro e w1 ⟨rfl,rfl⟩
    go_wp2
    go_round
    case rel=>
     refine ⟨k+1,by omega,by go_num,fun j x hj hx=>?_⟩
     rcases Nat.lt_or_ge j k with h | h
     ·exact HA.out j x h hx
     ·have:j=k:=by omega
      subst this
      rw [HG.out] at hx
      obtain rfl:=Option.some.inj hx
      exact HN.out
    case measure=>simp [intOf];omega
   | false=>
    rw [hn] at IN
    have hw:V=k:=by
     rw [HV.out]
     exact tw_len nmB _ k (by simpa using hk) HA.out (fun x hx=>by rw [HG.out] at hx;obtain rfl:=Option.some.inj hx;exact hn)
    have HW:=hid hw
    clear hn hw
    go_wp2_with fail
    refine (IN.out _).mono ?_
    rintro e w1 ⟨rfl,rfl⟩
    go_wp2
    go_ret
    exact ⟨by rw [HW.out];rfl,rfl⟩
  ·have hw:V=k:=by
    rw [HV.out]
    refine tw_len nmB _ k (by simpa using hk) HA.out (fun x hx=>?_)
    have:=(List.getElem?_eq_some_iff.1 hx).1
    have e:s.data.toList.length=s.size:=by simp
    omega
   have HW:=hid hw
   clear hw
   go_wp2
   go_ret
   exact ⟨by rw [HW.out];rfl,rfl⟩
def q0a (s:ByteArray):Bool:=decide (1<=s.size)&&decide (s.size<=60)&&(match s.data.toList with | []=>false | c::_=>ltrC c.toNat)&&decide (wEnd0 s=s.size)
theorem name_any (s:ByteArray) (w:World) (hs:s.size<=1000000000) :
  Calls Tryz.prog 128 #[.string s] w fun e w'=>e=.returned (.bool (q0a s))/\w=w':=by
 by_cases h0:s.size=0
 ·have hv:q0a s=false:=by unfold q0a;simp [h0]
  rw [hv]
  have e0:((s.size:Int)==0)=true:=by simp [h0]
  clear hv h0
  go_enter Tryz.func128,Tryz.ntmps128
  go_wp2
  go_ret
  exact ⟨rfl,rfl⟩
 have e0:((s.size:Int)==0)=false:=by rw [beq_eq_false_iff_ne];omega
 by_cases h60:60<s.size
 ·have hv:q0a s=false:=by unfold q0a;simp;omega
  rw [hv]
  have e1:decide ((60:Int)<(s.size:Int))=true:=by simp;omega
  clear hv
  go_enter Tryz.func128,Tryz.ntmps128
  go_wp2
  go_ret
  exact ⟨rfl,rfl⟩
 have e1:decide ((60:Int)<(s.size:Int))=false:=by simp;omega
 have hp:0<s.size:=by omega
 have hg:=q12 s 0 hp
 obtain ⟨c,hc⟩:∃ c,s[0]=c:=⟨_,rfl⟩
 rw [hc] at hg
 have hcl:=UInt8.toNat_lt c
 have LT:=hid (fun w=>aLetter_any c.toNat w hcl)
 have WE:=hid (fun w=>wordEnd_any s w hs)
 have hl:s.data.toList=c::s.data.toList.tail:=by
  cases h:s.data.toList with
  | nil=>rw [h] at hg;simp at hg
  | cons a l=>rw [h] at hg;simp at hg;rw [hg];rfl
 have hv:q0a s=(ltrC c.toNat&&decide (wEnd0 s=s.size)):=by
  unfold q0a
  rw [hl,decide_eq_true (show 1<=s.size by omega),decide_eq_true (show s.size<=60 by omega)]
  rfl
 have HV:=hid hv
 generalize q0a s=V at *
 generalize wEnd0 s=E at *
 clear hv hl hg
 cases hlt:ltrC c.toNat with
 | false=>
  rw [hlt] at LT
  rw [hlt] at HV
  go_enter Tryz.func128,Tryz.ntmps128
  go_wp2_with fail
  refine (LT.out _).mono ?_
  rintro e w1 ⟨rfl,rfl⟩
  go_wp2
  go_ret
  exact ⟨by rw [HV.out];rfl,rfl⟩
 | true=>
  rw [hlt] at LT
  rw [hlt] at HV
  go_enter Tryz.func128,Tryz.ntmps128
  go_wp2_with fail
  refine (LT.out _).mono ?_
  rintro e w1 ⟨rfl,rfl⟩
  go_wp2_with fail
  refine (WE.out _).mono ?_
  rintro e w1 ⟨rfl,rfl⟩
  go_wp2
  go_ret
  refine ⟨?_,rfl⟩
  rw [HV.out]
  refine q0h ?_
  rw [Bool.eq_iff_iff]
  simp
  (try omega)
end Go.Proofs.YtlbioncagkkkoaaGreatDoor

