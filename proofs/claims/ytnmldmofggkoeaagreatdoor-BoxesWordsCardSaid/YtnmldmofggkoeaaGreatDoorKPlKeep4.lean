/- The words of a string, plainly: the loop of the reference, and that it gives the fields of the library. The widths of code points and of strings, plainly. Words joined with gaps, plainly. The best division of words into lines, plainly: the table that both programs fill from its end, and what is read off it. Plainly: no division into lines that fit costs less than the one that the table gives, and the table's own division costs what it says. The lines of a string, plainly: what is cut at the first words of the best division. Words and widths of joined words, plainly: a string's words are what lies between its bytes 32 and 10; widths add up at such bytes. The words and the width of words that were joined, plainly. What the statement on kept words needs, plainly. Every line of the best division is in order, and the lines have all words, plainly. -/
import Derived.Lib.FieldsP
import Derived.Lib.Join
namespace Go.Proofs.YtnmldmofggkoeaaGreatDoor
open List renaming getElem?_eq_getElem->YG,length_append->YM,mem_of_getElem?->YT,map_append->YX,length_take->Zo
open Nat renaming le_refl->YI
set_option linter.unusedVariables false
set_option linter.unusedSimpArgs false
open Go.Lib
def jm (c:Nat):Bool:=(c:Int)==32||(c:Int)==10
theorem yU (s:ByteArray) (i:Nat) (h:i<s.size):i+(Utf8.decode s i).2<=s.size:=by have:=decodeN_le_n' (s.size-i) (s.get! i).toNat (s.get! (i+1)).toNat (s.get! (i+2)).toNat (s.get! (i+3)).toNat (by omega);rw [decode_at];omega
def jv (s:ByteArray):Nat->Nat->Nat->List ByteArray->List ByteArray × Nat
  | 0,_,fr,acc=>(acc,fr)
  | f+1,i,fr,acc=>
    if i<s.size then
      (if jm (Utf8.decode s i).1 then jv s f (i+(Utf8.decode s i).2) (i+(Utf8.decode s i).2) (if fr<i then acc++[s.extract fr i] else acc)
       else jv s f (i+(Utf8.decode s i).2) fr acc)
    else (acc,fr)
theorem wO (s:ByteArray) (f i fr:Nat) (acc:List ByteArray) (h:¬ i<s.size):jv s f i fr acc=(acc,fr):=by
  cases f<;>simp [jv,h]
def tQ (s:ByteArray) (r:List ByteArray × Nat):List ByteArray:=if r.2<s.size then r.1++[s.extract r.2 s.size] else r.1
def q01 (s:ByteArray):List ByteArray:=tQ s (jv s s.size 0 0 [])
theorem Ad (s:ByteArray) (f fr:Nat) (acc:List ByteArray) (st:Option Nat) (sp:List (Nat × Nat)) (h4:acc=sp.map (fun x=>s.extract x.1 x.2)) (h5:st=if fr<s.size then some fr else none) : (closeSpans s (spansFromP jm s f s.size st sp)).map (fun x=>s.extract x.1 x.2)=tQ s (jv s f s.size fr acc):=by
  rw [wO s _ _ _ _ (Nat.lt_irrefl _),spansFromP_end _ _ _ _ _ _ (Nat.lt_irrefl _)];show _=if fr<s.size then acc++[s.extract fr s.size] else acc
  by_cases h:fr<s.size
  · rw [if_pos h] at h5 ⊢
    subst h5;simp [closeSpans,h4]
  · rw [if_neg h] at h5 ⊢
    subst h5;simp [closeSpans,h4]
theorem jw (s:ByteArray):∀ (f i fr:Nat) (acc:List ByteArray) (st:Option Nat) (sp:List (Nat × Nat)),fr<=i->i<=s.size->s.size<=i+f -> acc=sp.map (fun x=>s.extract x.1 x.2)->(st=if fr<i then some fr else none) -> (closeSpans s (spansFromP jm s f i st sp)).map (fun x=>s.extract x.1 x.2)=tQ s (jv s f i fr acc)
  | 0,i,fr,acc,st,sp,h1,h2,h3,h4,h5=>by
    have hi:i=s.size:=by omega
    subst hi;exact Ad s 0 fr acc st sp h4 h5
  | f+1,i,fr,acc,st,sp,h1,h2,h3,h4,h5=>by
    by_cases hi:i<s.size
    · have hd:=yU s i hi
      have hw:1<=(Utf8.decode s i).2:=width_pos s i;unfold spansFromP jv;rw [if_pos hi,if_pos hi];by_cases hp:jm (Utf8.decode s i).1
      · rw [if_pos hp,if_pos hp]
        by_cases h:fr<i
        · rw [if_pos h] at h5 ⊢
          subst h5;exact jw s f _ _ _ _ _ (YI _) hd (by omega) (by simp [h4]) (by rw [if_neg (by omega)])
        · rw [if_neg h] at h5 ⊢
          subst h5;exact jw s f _ _ _ _ _ (YI _) hd (by omega) h4 (by rw [if_neg (by omega)])
      · rw [if_neg hp,if_neg hp]
        by_cases h:fr<i
        · rw [if_pos h] at h5
          subst h5;exact jw s f _ _ _ _ _ (by omega) hd (by omega) h4 (by rw [if_pos (by omega)])
        · rw [if_neg h] at h5
          subst h5;have hfi:fr=i:=by omega
          subst hfi;exact jw s f _ _ _ _ _ (by omega) hd (by omega) h4 (by rw [if_pos (by omega)])
    · have he:i=s.size:=by omega
      subst he;exact Ad s _ fr acc st sp h4 h5
theorem tJ (s:ByteArray):goFieldsP jm s=q01 s:=
  jw s s.size 0 0 [] none [] (YI _) (Nat.zero_le _) (by omega) rfl rfl
theorem jr (s:ByteArray):∀ (f i fr:Nat) (acc:List ByteArray),(jv s f i fr acc).1.length<=acc.length+f
  | 0,_,_,_=>by simp [jv]
  | f+1,i,fr,acc=>by
    rw [jv];split
    · split
      · refine Nat.le_trans (jr s f _ _ _) ?_
        split<;>simp<;>omega
      · exact Nat.le_trans (jr s f _ _ _) (by omega)
    · simp
def ig:List Nat:=[30,25,50,50,50,85,70,25,30,30,50,50,25,30,25,30,
  50,50,50,50,50,50,50,50,50,50,25,25,50,50,50,50,
  85,70,70,70,70,70,70,70,70,30,50,70,70,85,70,70,
  70,70,70,70,70,70,70,85,70,70,70,30,30,30,50,50,
  25,50,50,50,50,50,30,50,50,25,25,50,25,85,50,50,
  50,50,30,50,30,50,50,85,50,50,50,50,25,50,50]
def dY (c:Nat):Bool:=decide ((4352<=c/\c<=4447)\/(11904<=c/\c<=42191)\/(44032<=c/\c<=55203)\/(63744<=c/\c<=64255)\/(65072<=c/\c<=65103)\/(65281<=c/\c<=65376))
def dS (c:Nat):Nat:=
  if c<32\/c=127\/(55296<=c/\c<=57343)\/1114111<c then 0
  else if c<127 then ig.getD (c-32) 0
  else if dY c=true then 100 else 60
theorem wH:∀ k:Fin 95,25<=ig.getD k.val 0/\ig.getD k.val 0<=85:=by decide
theorem rJ (c:Nat):dS c<=100:=by
  unfold dS;split
  · omega
  · split
    · rename_i h1 h2
      have:=wH ⟨c-32,by omega⟩;simp only at this;omega
    · split<;>omega
theorem tF (c:Nat) (h:32<=c) (h':c<127):dS c=ig.getD (c-32) 0:=by unfold dS;rw [if_neg (by omega),if_pos h']
theorem jl (c:Nat) (h:c<32\/c=127\/(55296<=c/\c<=57343)\/1114111<c):dS c=0:=by unfold dS;rw [if_pos h]
theorem wI (c:Nat) (h:127<c) (h1:¬ (55296<=c/\c<=57343)) (h2:c<=1114111):dS c=if dY c=true then 100 else 60:=by unfold dS;rw [if_neg (by omega),if_neg (by omega)]
def Ch (s:ByteArray):Nat->Nat->Nat
  | 0,_=>0
  | f+1,i=>if i<s.size then dS (Utf8.decode s i).1+Ch s f (i+(Utf8.decode s i).2) else 0
def cO (s:ByteArray):Nat:=Ch s s.size 0
theorem tH (s:ByteArray) (f i:Nat) (h:¬ i<s.size):Ch s f i=0:=by cases f<;>simp [Ch,h]
theorem wJ (s:ByteArray) (f i:Nat) (h:i<s.size):Ch s (f+1) i=dS (Utf8.decode s i).1+Ch s f (i+(Utf8.decode s i).2):=by rw [Ch,if_pos h]
theorem mR (s:ByteArray):∀ f i,Ch s f i<=100*f
  | 0,_=>by simp [Ch]
  | f+1,i=>by
    rw [Ch];split
    · have:=rJ (Utf8.decode s i).1
      have:=mR s f (i+(Utf8.decode s i).2);omega
    · omega
theorem nP (s:ByteArray):cO s<=100*s.size:=mR s s.size 0
def jo (g:Nat->Nat):Nat->List ByteArray->List UInt8
  | _,[]=>[]
  | i,x::t=>(if i=0 then [] else List.replicate (g i) 32)++x.data.toList++jo g (i+1) t
def jB (g:Nat->Nat) (l:List ByteArray):ByteArray:=⟨(jo g 0 l).toArray⟩
theorem Bd (a b:List UInt8):(⟨a.toArray⟩:ByteArray)++⟨b.toArray⟩=⟨(a++b).toArray⟩:=by apply ByteArray.ext;rw [ByteArray.data_append];simp
theorem rP:∀ (l:List ByteArray) (i:Nat),0<i->Lib.joinTail [32] (l.map (·.data.toList))=jo (fun _=>1) i l
  | [],_,_=>rfl
  | y::t,i,h=>by
    have ih:=rP t (i+1) (by omega);rw [jo,if_neg (by omega),<- ih];simp [Lib.joinTail]
theorem zX (l:List ByteArray):(⟨(Lib.join (l.map (·.data.toList)) [32]).toArray⟩:ByteArray)=jB (fun _=>1) l:=by
  cases l with
  | nil=>rfl
  | cons x t=>
    unfold jB;rw [List.map_cons,Lib.join_cons,rP t 1 (by omega),jo];simp
theorem iy (s:ByteArray):∀ (f i fr:Nat) (acc:List ByteArray),(∀ x∈acc,x.size<=s.size)->∀ x∈(jv s f i fr acc).1,x.size<=s.size
  | 0,_,_,acc,h=>by simpa [jv] using h
  | f+1,i,fr,acc,h=>by
    have hx:∀ x∈(if fr<i then acc++[s.extract fr i] else acc),x.size<=s.size:=by
      intro x hx;split at hx
      · rcases List.mem_append.1 hx with hx | hx
        · exact h x hx
        · simp at hx;subst hx;simp [ByteArray.size_extract];omega
      · exact h x hx
    rw [jv];split
    · split
      · exact iy s f _ _ _ hx
      · exact iy s f _ _ _ h
    · exact h
theorem oG (s:ByteArray):∀ x∈q01 s,x.size<=s.size:=by
  intro x hx;unfold q01 tQ at hx;split at hx
  · rcases List.mem_append.1 hx with hx | hx
    · exact iy s _ _ _ _ (by simp) x hx
    · simp at hx;subst hx;simp [ByteArray.size_extract]
  · exact iy s _ _ _ _ (by simp) x hx
theorem Bb (s:ByteArray):(q01 s).length<=s.size+1:=by
  have:=jr s s.size 0 0 [];unfold q01 tQ;split
  · simp at this ⊢;omega
  · simp at this ⊢;omega
theorem Ae (g:Nat->Nat) (M S:Nat) (hg:∀ i,g i<=M):∀ (l:List ByteArray) (i:Nat),(∀ x∈l,x.size<=S)->(jo g i l).length<=l.length*(M+S)
  | [],_,_=>by simp [jo]
  | x::t,i,h=>by
    have ih:=Ae g M S hg t (i+1) (fun y hy=>h y (List.mem_cons_of_mem _ hy));have hx:=h x List.mem_cons_self;have hx2:x.data.toList.length=x.size:=Array.length_toList;have hgi:=hg i;have:(if i=0 then ([]:List UInt8) else List.replicate (g i) 32).length<=M:=by split<;>simp;omega
    rw [jo];simp only [YM,List.length_cons,hx2,Nat.succ_mul];omega
structure Dv where
  c:Int
  l:Int
  nx:Int
def mo (n:Nat) (wd:Int) (T:Nat->Dv) (to:Nat) (wide:Int):Dv:=
  ⟨(T to).c+(if to<n/\wide<=wd then (wd-wide)*(wd-wide) else 0),(T to).l+1,to⟩
def jA (x old:Dv):Bool:=decide (x.c<old.c)||(decide (x.c=old.c)&&decide (x.l<old.l))
def qx (n:Nat) (wd:Int) (T:Nat->Dv) (fr to:Nat) (wide:Int) (cur:Dv):Dv:=
  if to=fr+1\/jA (mo n wd T to wide) cur=true then mo n wd T to wide else cur
def jQ (ws:List Int) (sp wd:Int) (n:Nat) (T:Nat->Dv) (fr:Nat):Nat->Nat->Int->Dv->Dv
  | 0,_,_,cur=>cur
  | f+1,to,wide,cur=>
    if to=n then qx n wd T fr to wide cur
    else if wd<wide+(sp+ws.getD to 0) then qx n wd T fr to wide cur
    else jQ ws sp wd n T fr f (to+1) (wide+(sp+ws.getD to 0)) (qx n wd T fr to wide cur)
theorem Au (ws:List Int) (sp wd:Int) (n:Nat) (T:Nat->Dv) (fr f to:Nat) (wide:Int) (cur:Dv) (h:to=n) : jQ ws sp wd n T fr (f+1) to wide cur=qx n wd T fr to wide cur:=by rw [jQ,if_pos h]
theorem Av (ws:List Int) (sp wd:Int) (n:Nat) (T:Nat->Dv) (fr f to:Nat) (wide:Int) (cur:Dv) (h:wd<wide+(sp+ws.getD to 0)) : jQ ws sp wd n T fr (f+1) to wide cur=qx n wd T fr to wide cur:=by
  rw [jQ];by_cases e:to=n
  · rw [if_pos e]
  · rw [if_neg e,if_pos h]
theorem FN (ws:List Int) (sp wd:Int) (n:Nat) (T:Nat->Dv) (fr f to:Nat) (wide:Int) (cur:Dv) (h:to≠n) (h':¬ wd<wide+(sp+ws.getD to 0)) : jQ ws sp wd n T fr (f+1) to wide cur=jQ ws sp wd n T fr f (to+1) (wide+(sp+ws.getD to 0)) (qx n wd T fr to wide cur):=by rw [jQ,if_neg h,if_neg h']
def upd (T:Nat->Dv) (j:Nat) (d:Dv):Nat->Dv:=fun i=>if i=j then d else T i
def tab (ws:List Int) (sp wd:Int) (n:Nat):Nat->Nat->Dv
  | 0=>fun _=>⟨0,0,0⟩
  | k+1=>upd (tab ws sp wd n k) (n-(k+1)) (jQ ws sp wd n (tab ws sp wd n k) (n-(k+1)) (k+1) (n-k) (ws.getD (n-(k+1)) 0) (tab ws sp wd n k (n-(k+1))))
structure uE (n k:Nat) (T:Nat->Dv):Prop where
  c0:∀ j,0<=(T j).c/\(T j).c<=k*1099511627776
  l0:∀ j,0<=(T j).l/\(T j).l<=k
  z:∀ j,¬ (n-k<=j/\j<n)->T j=⟨0,0,0⟩
  nx:∀ j,n-k<=j->j<n->(j:Int)<(T j).nx/\(T j).nx<=n
structure xK (n k fr:Nat) (d:Dv):Prop where
  c:0<=d.c/\d.c<=k*1099511627776
  l:0<=d.l/\d.l<=k
  nx:(fr:Int)<d.nx/\d.nx<=n
theorem Ia {x:Int} (h0:0<=x) (h:x<=1048576):0<=x*x/\x*x<=1099511627776:=by have h1:x*x<=1048576*1048576:=Int.mul_le_mul h h h0 (by omega);have h2:0<=x*x:=Int.mul_nonneg h0 h0;omega
theorem Hq {n k:Nat} {T:Nat->Dv} (h:uE n k T) {wd:Int} (hw1:wd<=1048576) {fr to:Nat} (ht:fr<to) (htn:to<=n) {wide:Int} (h0:0<=wide):xK n (k+1) fr (mo n wd T to wide):=by
  have hc:=h.c0 to;have hl:=h.l0 to;refine ⟨?_,?_,?_⟩
  · unfold mo
    split
    · rename_i hh
      have:=Ia (x:=wd-wide) (by omega) (by omega);simp only;omega
    · simp only;omega
  · unfold mo;simp only;omega
  · unfold mo;simp only;omega
theorem Ib {n k:Nat} {T:Nat->Dv} (h:uE n k T) {wd:Int} (hw1:wd<=1048576) {fr to:Nat} (ht:fr<to) (htn:to<=n) {wide:Int} (h0:0<=wide) {cur:Dv} (hc:to=fr+1\/xK n (k+1) fr cur) : xK n (k+1) fr (qx n wd T fr to wide cur):=by
  unfold qx;split
  · exact Hq h hw1 ht htn h0
  · rcases hc with hc | hc
    · rename_i hh;exact absurd (.inl hc) hh
    · exact hc
theorem EY {n k:Nat} {T:Nat->Dv} (h:uE n k T) {ws:List Int} {sp wd:Int} (hw1:wd<=1048576) (hs:0<=sp) (hws:∀ x∈ws,(0:Int)<=x) {fr:Nat} : ∀ (f to:Nat) (wide:Int) (cur:Dv),fr<to->to<=n->0<f->0<=wide->(to=fr+1\/xK n (k+1) fr cur)->xK n (k+1) fr (jQ ws sp wd n T fr f to wide cur)
  | 0,_,_,_,_,_,hf,_,_=>absurd hf (by omega)
  | f+1,to,wide,cur,h1,h2,_,h4,h5=>by
    have hu:=Ib h hw1 h1 h2 h4 h5;have hd:0<=ws.getD to 0:=by
      rw [List.getD_eq_getElem?_getD];cases hx:ws[to]? with
      | none=>simp
      | some y=>exact hws y (YT hx)
    rw [jQ];split
    · exact hu
    · split
      · exact hu
      · cases f with
        | zero=>exact hu
        | succ f=>exact EY h hw1 hs hws (f+1) _ _ _ (by omega) (by omega) (by omega) (by omega) (.inr hu)
theorem rV (ws:List Int) (sp wd:Int) (n:Nat) (hw1:wd<=1048576) (hs:0<=sp) (hws:∀ x∈ws,(0:Int)<=x):∀ k,k<=n->uE n k (tab ws sp wd n k)
  | 0,_=>⟨fun j=>by simp [tab],fun j=>by simp [tab],fun j _=>rfl,fun j h1 h2=>by omega⟩
  | k+1,hk=>by
    have ih:=rV ws sp wd n hw1 hs hws k (by omega);have hd:0<=ws.getD (n-(k+1)) 0:=by
      rw [List.getD_eq_getElem?_getD];cases hx:ws[n-(k+1)]? with
      | none=>simp
      | some y=>exact hws y (YT hx)
    have he:=EY ih hw1 hs hws (fr:=n-(k+1)) (k+1) (n-k) (ws.getD (n-(k+1)) 0) (tab ws sp wd n k (n-(k+1))) (by omega) (by omega) (by omega) hd (.inl (by omega));rw [tab];generalize jQ ws sp wd n (tab ws sp wd n k) (n-(k+1)) (k+1) (n-k) (ws.getD (n-(k+1)) 0) (tab ws sp wd n k (n-(k+1)))=d at *;refine ⟨fun j=>?_,fun j=>?_,fun j hj=>?_,fun j h1 h2=>?_⟩
    · unfold upd;have:=ih.c0 j;split
      · exact he.c
      · push_cast;omega
    · unfold upd;have:=ih.l0 j;split
      · exact he.l
      · push_cast;omega
    · unfold upd;rw [if_neg (by omega)];exact ih.z j (by omega)
    · unfold upd
      by_cases e:j=n-(k+1)
      · rw [if_pos e,e];exact he.nx
      · rw [if_neg e];exact ih.nx j (by omega) h2
def q0z (n:Nat) (T:Nat->Dv):Nat->Nat->List Int
  | 0,_=>[]
  | f+1,i=>if i<n then (i:Int)::q0z n T f (T i).nx.toNat else []
theorem xG (n:Nat) (T:Nat->Dv) (f i:Nat) (h:¬ i<n):q0z n T f i=[]:=by cases f<;>simp [q0z,h]
theorem qM (n:Nat) (T:Nat->Dv) (f i:Nat) (h:i<n):q0z n T (f+1) i=(i:Int)::q0z n T f (T i).nx.toNat:=by rw [q0z,if_pos h]
theorem qc (n:Nat) (T:Nat->Dv):∀ f i,(q0z n T f i).length<=f
  | 0,_=>by simp [q0z]
  | f+1,i=>by
    rw [q0z];split
    · simp;exact qc n T f _
    · simp
def Qz (ws:List Int) (sp wd:Int):Nat->Dv:=tab ws sp wd ws.length ws.length
def uw (ws:List Int) (sp wd:Int):List Int:=q0z ws.length (Qz ws sp wd) ws.length 0
def xC (ws:List Int) (sp wd:Int):Int:=(Qz ws sp wd 0).c
theorem l8 (n:Nat) (T:Nat->Dv) (hT:∀ j,j<n->(j:Int)<(T j).nx):∀ (f i:Nat) (x:Int),x∈q0z n T f i->(i:Int)<=x/\x<n
  | 0,_,_,h=>by simp [q0z] at h
  | f+1,i,x,h=>by
    rw [q0z] at h;split at h
    · rename_i hi
      have:=hT i hi;rcases List.mem_cons.1 h with rfl | h
      · omega
      · have ih:=l8 n T hT f _ x h
        omega
    · simp at h
theorem jU (n:Nat) (T:Nat->Dv) (hT:∀ j,j<n->(j:Int)<(T j).nx):∀ (f i:Nat) (k:Nat) (x y:Int),(q0z n T f i)[k]?=some x->(q0z n T f i)[k+1]?=some y->x<y
  | 0,_,_,_,_,h,_=>by simp [q0z] at h
  | f+1,i,k,x,y,h,h'=>by
    rw [q0z] at h h';split at h
    · rename_i hi
      rw [if_pos hi] at h';have hn:=hT i hi;cases k with
      | zero=>
        simp at h h';subst h;have:=l8 n T hT f _ y (YT h');omega
      | succ k=>
        simp at h h';exact jU n T hT f _ k x y h h'
    · simp at h
def bP (l:List ByteArray):List Int:=l.map fun x=>(cO x:Int)
theorem pU (l:List ByteArray):(bP l).length=l.length:=by simp [bP]
def dX (l:List ByteArray) (F:List Int) (i:Nat):Nat:=if i+1<F.length then (F.getD (i+1) 0).toNat else l.length
def iY (F:List Int) (i:Nat):Nat:=(F.getD i 0).toNat
def iZ (l:List ByteArray) (F:List Int) (i:Nat):ByteArray:=jB (fun _=>1) ((l.take (dX l F i)).drop (iY F i))
def mZ (l:List ByteArray) (F:List Int):List ByteArray:=(List.range F.length).map (iZ l F)
def lC (l:List ByteArray) (F:List Int) (k:Nat):List ByteArray:=(List.range k).map (iZ l F)
theorem yT (l:List ByteArray) (F:List Int) (k:Nat):lC l F (k+1)=lC l F k++[iZ l F k]:=by unfold lC;rw [List.range_succ,YX];rfl
theorem BH (l:List ByteArray) (F:List Int) (k:Nat):(lC l F k).length=k:=by simp [lC]
structure Mj (l:List ByteArray) (F:List Int):Prop where
  len:F.length<=l.length
  ge:∀ i,i<F.length->0<=F.getD i 0/\F.getD i 0<l.length
  inc:∀ i,i+1<F.length->F.getD i 0<F.getD (i+1) 0
  z:0<l.length->F.getD 0 1=0
theorem Mj.lt {l:List ByteArray} {F:List Int} (h:Mj l F) (i:Nat) (hi:i<F.length):iY F i<dX l F i/\dX l F i<=l.length:=by
  have h1:=h.ge i hi;unfold iY dX;split
  · rename_i h2
    have h3:=h.ge (i+1) h2;have h4:=h.inc i h2;omega
  · omega
theorem sF (l:List ByteArray) (sp wd:Int) (hs:0<=sp) (hd:wd<=1048576):Mj l (uw (bP l) sp wd):=by
  have hws:∀ x∈bP l,(0:Int)<=x:=by intro x hx;simp [bP] at hx;obtain ⟨a,_,rfl⟩:=hx;omega
  have hT:=rV (bP l) sp wd (bP l).length hd hs hws (bP l).length (YI _);have hnx:∀ j,j<(bP l).length->(j:Int)<(Qz (bP l) sp wd j).nx:=fun j hj=>(hT.nx j (by omega) hj).1
  have hl:=pU l;have hget:∀ i,i<(uw (bP l) sp wd).length->∃ x,(uw (bP l) sp wd)[i]?=some x/\(uw (bP l) sp wd).getD i 0=x:=fun i hi=>by
    refine ⟨_,YG hi,?_⟩;rw [List.getD_eq_getElem?_getD,YG hi];rfl
  refine ⟨?_,?_,?_,?_⟩
  · rw [<- hl];exact qc _ _ _ _
  · intro i hi
    obtain ⟨x,hx,e⟩:=hget i hi;rw [e];have:=l8 _ _ hnx _ _ x (YT hx);omega
  · intro i hi
    obtain ⟨x,hx,e⟩:=hget i (by omega);obtain ⟨y,hy,e'⟩:=hget (i+1) hi;rw [e,e'];exact jU _ _ hnx _ _ i x y hx hy
  · intro h0
    unfold uw;obtain ⟨m,hm⟩:∃ m,(bP l).length=m+1:=⟨(bP l).length-1,by omega⟩;have:=qM (bP l).length (Qz (bP l) sp wd) m 0 (by omega);rw [<- hm] at this;rw [this];rfl
theorem ru (l:List ByteArray) (S:Nat) (h:∀ x∈l,x.size<=S) (a b:Nat):(jB (fun _=>1) ((l.take a).drop b)).size<=l.length*(1+S):=by
  have h1:=Ae (fun _=>1) 1 S (fun _=>YI _) ((l.take a).drop b) 0 (fun x hx=>h x (List.mem_of_mem_take (List.mem_of_mem_drop hx)));have h2:(jB (fun _=>1) ((l.take a).drop b)).size=(jo (fun _=>1) 0 ((l.take a).drop b)).length:=by simp [jB,ByteArray.size]
  rw [h2];exact Nat.le_trans h1 (Nat.mul_le_mul_right _ (by simp;omega))
open Go.Lib
def Ab (c:UInt8):Bool:=c.toNat==32||c.toNat==10
def tO:List UInt8->List UInt8->List (List UInt8)
  | [],cur=>if cur=[] then [] else [cur]
  | c::t,cur=>if Ab c=true then (if cur=[] then tO t [] else cur::tO t []) else tO t (cur++[c])
theorem mU:∀ (x rest cur:List UInt8),(∀ c∈x,Ab c=false)->tO (x++rest) cur=tO rest (cur++x)
  | [],rest,cur,_=>by simp
  | c::t,rest,cur,h=>by
    rw [List.cons_append,tO,if_neg (by simp [h c List.mem_cons_self]),mU t rest _ (fun d hd=>h d (List.mem_cons_of_mem _ hd))];simp
theorem EZ (s:ByteArray) (i:Nat) (_hi:i<s.size) (h:128<=(s.get! i).toNat) : 128<=(Utf8.decode s i).1/\∀ k,k<(Utf8.decode s i).2->128<=(s.get! (i+k)).toNat:=by
  rw [decode_at];have g1:=UInt8.toNat_lt (s.get! (i+1));have g2:=UInt8.toNat_lt (s.get! (i+2));have g3:=UInt8.toNat_lt (s.get! (i+3));generalize hb0:(s.get! i).toNat=b0 at *;generalize hb1:(s.get! (i+1)).toNat=b1 at *;generalize hb2:(s.get! (i+2)).toNat=b2 at *;generalize hb3:(s.get! (i+3)).toNat=b3 at *;unfold decodeN;have one:∀ k,k<1->128<=(s.get! (i+k)).toNat:=fun k hk=>by
    obtain rfl:k=0:=by omega
    rw [Nat.add_zero,hb0];exact h
  rw [if_neg (by omega)];split
  · rename_i hc
    split
    · refine ⟨by simp only;omega,fun k hk=>?_⟩
      simp only at hk;have:k=0\/k=1:=by omega
      rcases this with rfl | rfl
      · exact one 0 (by omega)
      · rw [hb1];omega
    · exact ⟨by simp,one⟩
  · split
    · rename_i hc
      split
      · refine ⟨by simp only;omega,fun k hk=>?_⟩
        simp only at hk;have:k=0\/k=1\/k=2:=by omega
        rcases this with rfl | rfl | rfl
        · exact one 0 (by omega)
        · rw [hb1];omega
        · rw [hb2];omega
      · exact ⟨by simp,one⟩
    · split
      · rename_i hc
        split
        · refine ⟨by simp only;omega,fun k hk=>?_⟩
          simp only at hk;have:k=0\/k=1\/k=2\/k=3:=by omega
          rcases this with rfl | rfl | rfl | rfl
          · exact one 0 (by omega)
          · rw [hb1];omega
          · rw [hb2];omega
          · rw [hb3];omega
        · exact ⟨by simp,one⟩
      · exact ⟨by simp,one⟩
theorem Hr (s:ByteArray) (i:Nat) (h:(s.get! i).toNat<128):Utf8.decode s i=((s.get! i).toNat,1):=by rw [decode_at];unfold decodeN;rw [if_pos h]
theorem qd (s:ByteArray) (i:Nat) (h:i<s.size):s.data.toList[i]?=some (s.get! i):=by
  have h':i<s.data.toList.length:=by simpa using h
  rw [YG h'];congr 1;cases s with | mk bs=>
  show bs.toList[i]=bs[i]!;rw [getElem!_pos bs i h];simp
theorem lG (s:ByteArray):∀ (f i fr:Nat) (acc:List ByteArray),fr<=i->i<=s.size->s.size<=i+f -> (tQ s (jv s f i fr acc)).map (·.data.toList)=acc.map (·.data.toList)++tO (s.data.toList.drop i) ((s.data.toList.take i).drop fr)
  | f,i,fr,acc,h1,h2,h3=>by
    by_cases hi:i<s.size
    · obtain ⟨f,rfl⟩:∃ f',f=f'+1:=⟨f-1,by omega⟩
      have hd:=yU s i hi;have hw:=width_pos s i;have hsz:s.data.toList.length=s.size:=Array.length_toList;have hex:(s.extract fr i).data.toList=(s.data.toList.take i).drop fr:=by simp [ByteArray.data_extract,Array.toList_extract,List.drop_take]
      have hne:(((s.data.toList.take i).drop fr)=[])↔¬ fr<i:=by rw [List.drop_eq_nil_iff,Zo,hsz];omega
      by_cases hb:(s.get! i).toNat<128
      · have hdec:=Hr s i hb
        have hdr:s.data.toList.drop i=s.get! i::s.data.toList.drop (i+1):=by rw [List.drop_eq_getElem_cons (by omega)];congr 1;have:=qd s i hi;rw [YG (by omega)] at this;exact Option.some.inj this
        have hsp:jm (Utf8.decode s i).1=Ab (s.get! i):=by rw [hdec];unfold jm Ab;simp only;rw [Bool.eq_iff_iff];simp;omega
        have ht1:s.data.toList.take (i+1)=s.data.toList.take i++[s.get! i]:=by rw [List.take_add_one,qd s i hi];rfl
        rw [jv,if_pos hi,hsp,hdec];simp only;rw [hdr,tO];cases hs:Ab (s.get! i)
        · simp only [Bool.false_eq_true,if_false]
          rw [lG s f (i+1) fr acc (by omega) (by omega) (by omega),ht1];rw [List.drop_append_of_le_length (by rw [Zo,hsz];omega)]
        · simp only [if_true]
          rw [lG s f (i+1) (i+1) _ (YI _) (by omega) (by omega)];have hnil:(s.data.toList.take (i+1)).drop (i+1)=[]:=by rw [List.drop_eq_nil_iff,Zo];omega
          rw [hnil];by_cases hfi:fr<i
          · rw [if_pos hfi,if_neg (by rw [hne];omega)]
            rw [YX,List.map_cons,List.map_nil,hex,List.append_assoc];rfl
          · rw [if_neg hfi,if_pos (by rw [hne];exact hfi)]
      · have hh:=EZ s i hi (by omega)
        have hsp:jm (Utf8.decode s i).1=false:=by unfold jm;have:=hh.1;rw [Bool.or_eq_false_iff,beq_eq_false_iff_ne,beq_eq_false_iff_ne];omega
        rw [jv,if_pos hi,hsp];simp only [Bool.false_eq_true,if_false];generalize Utf8.decode s i=d at *;obtain ⟨d1,d2⟩:=d;simp only at hd hw hh ⊢;rw [lG s f (i+d2) fr acc (by omega) hd (by omega)];have hdr:s.data.toList.drop i=(s.data.toList.drop i).take d2++s.data.toList.drop (i+d2):=by rw [<- List.drop_drop,List.take_append_drop]
        have hx:∀ c∈(s.data.toList.drop i).take d2,Ab c=false:=by
          intro c hc;obtain ⟨k,hk,e⟩:=List.mem_iff_getElem.1 hc;have hk2:k<d2:=by simp at hk;omega
          have:(s.data.toList.drop i)[k]?=some c:=by rw [<- e,<- YG,List.getElem?_take,if_pos hk2]
          rw [List.getElem?_drop,qd s (i+k) (by omega)] at this;have e2:=Option.some.inj this;have:=hh.2 k hk2;unfold Ab;rw [<- e2,Bool.or_eq_false_iff,beq_eq_false_iff_ne,beq_eq_false_iff_ne];omega
        rw [hdr,mU _ _ _ hx];congr 2;rw [List.take_add,List.drop_append_of_le_length (by rw [Zo,hsz];omega)]
    · have he:i=s.size:=by omega
      subst he;have hsz:s.data.toList.length=s.size:=Array.length_toList;rw [wO s _ _ _ _ hi];rw [List.drop_eq_nil_of_le (by omega),List.take_of_length_le (by omega),tO];unfold tQ;simp only;by_cases hf:fr<s.size
      · rw [if_pos hf,if_neg (by rw [List.drop_eq_nil_iff];omega)]
        have hex:(s.extract fr s.size).data.toList=s.data.toList.drop fr:=by simp only [ByteArray.data_extract,Array.toList_extract,List.extract_eq_take_drop];rw [List.take_of_length_le (by rw [List.length_drop,hsz];omega)]
        rw [YX,List.map_cons,List.map_nil,hex]
      · rw [if_neg hf,if_pos (by rw [List.drop_eq_nil_iff];omega)]
        simp
termination_by f=>f
open Go.Lib
theorem jq (s:ByteArray):(q01 s).map (·.data.toList)=tO s.data.toList []:=by have h:=lG s s.size 0 0 [] (YI _) (Nat.zero_le _) (by omega);simpa [q01] using h
def Good (x:List UInt8):Prop:=x≠[]/\∀ c∈x,Ab c=false
theorem fJ:∀ (l cur:List UInt8),(∀ c∈cur,Ab c=false)->∀ x∈tO l cur,Good x
  | [],cur,h=>by
    intro x hx;rw [tO] at hx;split at hx
    · simp at hx
    · rename_i hc
      simp at hx;subst hx;exact ⟨hc,h⟩
  | c::t,cur,h=>by
    intro x hx;rw [tO] at hx;split at hx
    · split at hx
      · exact fJ t [] (by simp) x hx
      · rename_i hc
        rcases List.mem_cons.1 hx with rfl | hx
        · exact ⟨hc,h⟩
        · exact fJ t [] (by simp) x hx
    · rename_i hc
      refine fJ t (cur++[c]) (fun d hd=>?_) x hx;rcases List.mem_append.1 hd with hd | hd
      · exact h d hd
      · simp at hd;subst hd;simpa using hc
theorem y7 (s:ByteArray):∀ x∈q01 s,Good x.data.toList:=by intro x hx;refine fJ s.data.toList [] (by simp) _ ?_;rw [<- jq];exact List.mem_map_of_mem hx
open Go.Lib
def tot:List (List UInt8)->Nat
  | []=>0
  | x::t=>x.length+1+tot t
theorem iA:∀ (l cur:List UInt8),tot (tO l cur)<=l.length+cur.length+1
  | [],cur=>by rw [tO];split<;>simp [tot]
  | c::t,cur=>by
    rw [tO];split
    · split
      · rename_i h
        have:=iA t [];simp at this ⊢;omega
      · have:=iA t []
        simp [tot] at this ⊢;omega
    · have:=iA t (cur++[c])
      simp at this ⊢;omega
theorem wP:∀ (l:List ByteArray) (i:Nat),0<i->(jo (fun _=>1) i l).length=tot (l.map (·.data.toList))
  | [],_,_=>rfl
  | x::t,i,h=>by
    rw [jo,if_neg (by omega)];simp only [YM,List.length_replicate,List.map_cons,tot,wP t (i+1) (by omega)];omega
theorem LD (l:List ByteArray):(jB (fun _=>1) l).size+1<=tot (l.map (·.data.toList))+1/\(l≠[]->(jB (fun _=>1) l).size+1=tot (l.map (·.data.toList))):=by
  have hs:(jB (fun _=>1) l).size=(jo (fun _=>1) 0 l).length:=by simp [jB,ByteArray.size]
  rw [hs];cases l with
  | nil=>simp [jo,tot]
  | cons x t=>
    have:(jo (fun _=>1) 0 (x::t)).length+1=tot ((x::t).map (·.data.toList)):=by rw [jo,if_pos rfl];simp only [List.nil_append,YM,wP t 1 (by omega),List.map_cons,tot];omega
    exact ⟨by omega,fun _=>this⟩
theorem qg (a b:List (List UInt8)):tot (a++b)=tot a+tot b:=by
  induction a with
  | nil=>simp [tot]
  | cons x t ih=>simp [tot,ih];omega
theorem Bf (s:ByteArray) (a b:Nat):(jB (fun _=>1) (((q01 s).take a).drop b)).size<=s.size:=by
  have h1:=iA s.data.toList [];rw [<- jq] at h1;have h2:tot ((((q01 s).take a).drop b).map (·.data.toList))<=tot ((q01 s).map (·.data.toList)):=by
    have e1:(q01 s).map (·.data.toList)=((q01 s).take a).map (·.data.toList)++((q01 s).drop a).map (·.data.toList):=by rw [<- YX,List.take_append_drop]
    have e2:((q01 s).take a).map (·.data.toList)=(((q01 s).take a).take b).map (·.data.toList)++(((q01 s).take a).drop b).map (·.data.toList):=by rw [<- YX,List.take_append_drop]
    rw [e1,e2,qg,qg];omega
  have hsz:s.data.toList.length=s.size:=Array.length_toList;rw [hsz] at h1;by_cases h:((q01 s).take a).drop b=[]
  · rw [h];exact Nat.zero_le _
  · have:=(LD (((q01 s).take a).drop b)).2 h
    simp at h1;omega
open Go.Lib
def pY (l:List ByteArray) (F:List Int) (i:Nat):List ByteArray:=(l.take (dX l F i)).drop (iY F i)
theorem Af (l:List ByteArray) (F:List Int) (h:Mj l F):∀ k,k<=F.length->0<k->((List.range k).flatMap (pY l F))=l.take (dX l F (k-1))
  | 0,_,h0=>absurd h0 (by omega)
  | 1,hk,_=>by
    have hb:iY F 0=0:=by
      have h1:=h.len;have hz:=h.z (by omega);have:F.getD 0 0=F.getD 0 1:=by rw [List.getD_eq_getElem?_getD,List.getD_eq_getElem?_getD,YG (by omega)];rfl
      unfold iY;rw [this,hz];rfl
    simp [pY,hb]
  | k+2,hk,_=>by
    have ih:=Af l F h (k+1) (by omega) (by omega);have hlt:=h.lt (k+1) (by omega);have hbe:iY F (k+1)=dX l F k:=by unfold iY dX;rw [if_pos (by omega)]
    rw [List.range_succ,List.flatMap_append,ih];simp only [Nat.add_one_sub_one,List.flatMap_cons,List.flatMap_nil,List.append_nil];show l.take (dX l F k)++pY l F (k+1)=l.take (dX l F (k+1));unfold pY;rw [hbe] at hlt ⊢;have:l.take (dX l F k)=(l.take (dX l F (k+1))).take (dX l F k):=by rw [List.take_take,Nat.min_eq_left (by omega)]
    rw [this,List.take_append_drop]
theorem ET (l:List ByteArray) (F:List Int) (h:Mj l F) (hl:0<l.length):((List.range F.length).flatMap (pY l F))=l:=by
  have Sl:0<F.length:=by
    have hz:=h.z hl;cases F with
    | nil=>simp at hz
    | cons _ _=>simp
  rw [Af l F h F.length (YI _) Sl];unfold dX;rw [if_neg (by omega),List.take_length]
theorem EU (l:List ByteArray) (F:List Int):(mZ l F).length=F.length:=by simp [mZ]
end Go.Proofs.YtnmldmofggkoeaaGreatDoor

