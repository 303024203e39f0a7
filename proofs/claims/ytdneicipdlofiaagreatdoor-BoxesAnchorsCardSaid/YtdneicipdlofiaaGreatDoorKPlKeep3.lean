/- The words of a string, plainly: the loop of the reference, and that it gives the fields of the library. The widths of code points and of strings, plainly. Words joined with gaps, plainly. The best division of words into lines, plainly: the table that both programs fill from its end, and what is read off it. Plainly: no division into lines that fit costs less than the one that the table gives, and the table's own division costs what it says. The lines of a string, plainly: what is cut at the first words of the best division. Words and widths of joined words, plainly: a string's words are what lies between its bytes 32 and 10; widths add up at such bytes. The words and the width of words that were joined, plainly. What the statement on kept words needs, plainly. -/
import Derived.Lib.FieldsP
import Derived.Lib.Join
namespace Go.Proofs.YtdneicipdlofiaaGreatDoor
open List renaming getElem?_eq_getElem->joq,mem_of_getElem?->jpk,map_append->jq0,length_take->jrk
open Nat renaming le_refl->joz
set_option linter.unusedVariables false
set_option linter.unusedSimpArgs false
open Go.Lib
def nA (c:Nat):Bool:=(c:Int)==32||(c:Int)==10
theorem Iz (s:ByteArray) (i:Nat) (h:i<s.size):i+(Utf8.decode s i).2<=s.size:=by have:=decodeN_le_n' (s.size-i) (s.get! i).toNat (s.get! (i+1)).toNat (s.get! (i+2)).toNat (s.get! (i+3)).toNat (by omega);rw [decode_at];omega
def nE (s:ByteArray):Nat->Nat->Nat->List ByteArray->List ByteArray × Nat
  | 0,_,fr,acc=>(acc,fr)
  | f+1,i,fr,acc=>
    if i<s.size then
      (if nA (Utf8.decode s i).1 then nE s f (i+(Utf8.decode s i).2) (i+(Utf8.decode s i).2) (if fr<i then acc++[s.extract fr i] else acc)
       else nE s f (i+(Utf8.decode s i).2) fr acc)
    else (acc,fr)
theorem FV (s:ByteArray) (f i fr:Nat) (acc:List ByteArray) (h:¬ i<s.size):nE s f i fr acc=(acc,fr):=by
  cases f<;>simp [nE,h]
def Ed (s:ByteArray) (r:List ByteArray × Nat):List ByteArray:=if r.2<s.size then r.1++[s.extract r.2 s.size] else r.1
def fJ (s:ByteArray):List ByteArray:=Ed s (nE s s.size 0 0 [])
theorem J5 (s:ByteArray) (f fr:Nat) (acc:List ByteArray) (st:Option Nat) (sp:List (Nat × Nat)) (h4:acc=sp.map (fun x=>s.extract x.1 x.2)) (h5:st=if fr<s.size then some fr else none) : (closeSpans s (spansFromP nA s f s.size st sp)).map (fun x=>s.extract x.1 x.2)=Ed s (nE s f s.size fr acc):=by
  rw [FV s _ _ _ _ (Nat.lt_irrefl _),spansFromP_end _ _ _ _ _ _ (Nat.lt_irrefl _)];show _=if fr<s.size then acc++[s.extract fr s.size] else acc
  by_cases h:fr<s.size
  · rw [if_pos h] at h5 ⊢
    subst h5;simp [closeSpans,h4]
  · rw [if_neg h] at h5 ⊢
    subst h5;simp [closeSpans,h4]
theorem nG (s:ByteArray):∀ (f i fr:Nat) (acc:List ByteArray) (st:Option Nat) (sp:List (Nat × Nat)),fr<=i->i<=s.size->s.size<=i+f -> acc=sp.map (fun x=>s.extract x.1 x.2)->(st=if fr<i then some fr else none) -> (closeSpans s (spansFromP nA s f i st sp)).map (fun x=>s.extract x.1 x.2)=Ed s (nE s f i fr acc)
  | 0,i,fr,acc,st,sp,h1,h2,h3,h4,h5=>by
    have hi:i=s.size:=by omega
    subst hi;exact J5 s 0 fr acc st sp h4 h5
  | f+1,i,fr,acc,st,sp,h1,h2,h3,h4,h5=>by
    by_cases hi:i<s.size
    · have hd:=Iz s i hi
      have hw:1<=(Utf8.decode s i).2:=width_pos s i;unfold spansFromP nE;rw [if_pos hi,if_pos hi];by_cases hp:nA (Utf8.decode s i).1
      · rw [if_pos hp,if_pos hp]
        by_cases h:fr<i
        · rw [if_pos h] at h5 ⊢
          subst h5;exact nG s f _ _ _ _ _ (joz _) hd (by omega) (by simp [h4]) (by rw [if_neg (by omega)])
        · rw [if_neg h] at h5 ⊢
          subst h5;exact nG s f _ _ _ _ _ (joz _) hd (by omega) h4 (by rw [if_neg (by omega)])
      · rw [if_neg hp,if_neg hp]
        by_cases h:fr<i
        · rw [if_pos h] at h5
          subst h5;exact nG s f _ _ _ _ _ (by omega) hd (by omega) h4 (by rw [if_pos (by omega)])
        · rw [if_neg h] at h5
          subst h5;have hfi:fr=i:=by omega
          subst hfi;exact nG s f _ _ _ _ _ (by omega) hd (by omega) h4 (by rw [if_pos (by omega)])
    · have he:i=s.size:=by omega
      subst he;exact J5 s _ fr acc st sp h4 h5
theorem Da (s:ByteArray):goFieldsP nA s=fJ s:=
  nG s s.size 0 0 [] none [] (joz _) (Nat.zero_le _) (by omega) rfl rfl
theorem qA (s:ByteArray):∀ (f i fr:Nat) (acc:List ByteArray),(nE s f i fr acc).1.length<=acc.length+f
  | 0,_,_,_=>by simp [nE]
  | f+1,i,fr,acc=>by
    rw [nE];split
    · split
      · refine Nat.le_trans (qA s f _ _ _) ?_
        split<;>simp<;>omega
      · exact Nat.le_trans (qA s f _ _ _) (by omega)
    · simp
def lM:List Nat:=[30,25,50,50,50,85,70,25,30,30,50,50,25,30,25,30,
  50,50,50,50,50,50,50,50,50,50,25,25,50,50,50,50,
  85,70,70,70,70,70,70,70,70,30,50,70,70,85,70,70,
  70,70,70,70,70,70,70,85,70,70,70,30,30,30,50,50,
  25,50,50,50,50,50,30,50,50,25,25,50,25,85,50,50,
  50,50,30,50,30,50,50,85,50,50,50,50,25,50,50]
def iK (c:Nat):Bool:=decide ((4352<=c/\c<=4447)\/(11904<=c/\c<=42191)\/(44032<=c/\c<=55203)\/(63744<=c/\c<=64255)\/(65072<=c/\c<=65103)\/(65281<=c/\c<=65376))
def iG (c:Nat):Nat:=
  if c<32\/c=127\/(55296<=c/\c<=57343)\/1114111<c then 0
  else if c<127 then lM.getD (c-32) 0
  else if iK c=true then 100 else 60
theorem FE:∀ k:Fin 95,25<=lM.getD k.val 0/\lM.getD k.val 0<=85:=by decide
theorem Bb (c:Nat):iG c<=100:=by
  unfold iG;split
  · omega
  · split
    · rename_i h1 h2
      have:=FE ⟨c-32,by omega⟩;simp only at this;omega
    · split<;>omega
theorem C8 (c:Nat) (h:32<=c) (h':c<127):iG c=lM.getD (c-32) 0:=by unfold iG;rw [if_neg (by omega),if_pos h']
theorem ny (c:Nat) (h:c<32\/c=127\/(55296<=c/\c<=57343)\/1114111<c):iG c=0:=by unfold iG;rw [if_pos h]
theorem FH (c:Nat) (h:127<c) (h1:¬ (55296<=c/\c<=57343)) (h2:c<=1114111):iG c=if iK c=true then 100 else 60:=by unfold iG;rw [if_neg (by omega),if_neg (by omega)]
def Nh (s:ByteArray):Nat->Nat->Nat
  | 0,_=>0
  | f+1,i=>if i<s.size then iG (Utf8.decode s i).1+Nh s f (i+(Utf8.decode s i).2) else 0
def dA (s:ByteArray):Nat:=Nh s s.size 0
theorem C9 (s:ByteArray) (f i:Nat) (h:¬ i<s.size):Nh s f i=0:=by cases f<;>simp [Nh,h]
theorem FI (s:ByteArray) (f i:Nat) (h:i<s.size):Nh s (f+1) i=iG (Utf8.decode s i).1+Nh s f (i+(Utf8.decode s i).2):=by rw [Nh,if_pos h]
theorem uz (s:ByteArray):∀ f i,Nh s f i<=100*f
  | 0,_=>by simp [Nh]
  | f+1,i=>by
    rw [Nh];split
    · have:=Bb (Utf8.decode s i).1
      have:=uz s f (i+(Utf8.decode s i).2);omega
    · omega
theorem vK (s:ByteArray):dA s<=100*s.size:=uz s s.size 0
def mP (g:Nat->Nat):Nat->List ByteArray->List UInt8
  | _,[]=>[]
  | i,x::t=>(if i=0 then [] else List.replicate (g i) 32)++x.data.toList++mP g (i+1) t
def jB (g:Nat->Nat) (l:List ByteArray):ByteArray:=⟨(mP g 0 l).toArray⟩
theorem Bq:∀ (l:List ByteArray) (i:Nat),0<i->Lib.joinTail [32] (l.map (·.data.toList))=mP (fun _=>1) i l
  | [],_,_=>rfl
  | y::t,i,h=>by
    have ih:=Bq t (i+1) (by omega);rw [mP,if_neg (by omega),<- ih];simp [Lib.joinTail]
theorem J3 (l:List ByteArray):(⟨(Lib.join (l.map (·.data.toList)) [32]).toArray⟩:ByteArray)=jB (fun _=>1) l:=by
  cases l with
  | nil=>rfl
  | cons x t=>
    unfold jB;rw [List.map_cons,Lib.join_cons,Bq t 1 (by omega),mP];simp
theorem lS (s:ByteArray):∀ (f i fr:Nat) (acc:List ByteArray),(∀ x∈acc,x.size<=s.size)->∀ x∈(nE s f i fr acc).1,x.size<=s.size
  | 0,_,_,acc,h=>by simpa [nE] using h
  | f+1,i,fr,acc,h=>by
    have hx:∀ x∈(if fr<i then acc++[s.extract fr i] else acc),x.size<=s.size:=by
      intro x hx;split at hx
      · rcases List.mem_append.1 hx with hx | hx
        · exact h x hx
        · simp at hx;subst hx;simp [ByteArray.size_extract];omega
      · exact h x hx
    rw [nE];split
    · split
      · exact lS s f _ _ _ hx
      · exact lS s f _ _ _ h
    · exact h
theorem oO (s:ByteArray):∀ x∈fJ s,x.size<=s.size:=by
  intro x hx;unfold fJ Ed at hx;split at hx
  · rcases List.mem_append.1 hx with hx | hx
    · exact lS s _ _ _ _ (by simp) x hx
    · simp at hx;subst hx;simp [ByteArray.size_extract]
  · exact lS s _ _ _ _ (by simp) x hx
theorem Lm (s:ByteArray):(fJ s).length<=s.size+1:=by
  have:=qA s s.size 0 0 [];unfold fJ Ed;split
  · simp at this ⊢;omega
  · simp at this ⊢;omega
theorem J6 (g:Nat->Nat) (M S:Nat) (hg:∀ i,g i<=M):∀ (l:List ByteArray) (i:Nat),(∀ x∈l,x.size<=S)->(mP g i l).length<=l.length*(M+S)
  | [],_,_=>by simp [mP]
  | x::t,i,h=>by
    have ih:=J6 g M S hg t (i+1) (fun y hy=>h y (List.mem_cons_of_mem _ hy));have hx:=h x List.mem_cons_self;have hx2:x.data.toList.length=x.size:=Array.length_toList;have hgi:=hg i;have:(if i=0 then ([]:List UInt8) else List.replicate (g i) 32).length<=M:=by split<;>simp;omega
    rw [mP];simp only [List.length_append,List.length_cons,hx2,Nat.succ_mul];omega
structure Dv where
  c:Int
  l:Int
  nx:Int
def tF (n:Nat) (wd:Int) (T:Nat->Dv) (to:Nat) (wide:Int):Dv:=
  ⟨(T to).c+(if to<n/\wide<=wd then (wd-wide)*(wd-wide) else 0),(T to).l+1,to⟩
def nM (x old:Dv):Bool:=decide (x.c<old.c)||(decide (x.c=old.c)&&decide (x.l<old.l))
def yV (n:Nat) (wd:Int) (T:Nat->Dv) (fr to:Nat) (wide:Int) (cur:Dv):Dv:=
  if to=fr+1\/nM (tF n wd T to wide) cur=true then tF n wd T to wide else cur
def nZ (ws:List Int) (sp wd:Int) (n:Nat) (T:Nat->Dv) (fr:Nat):Nat->Nat->Int->Dv->Dv
  | 0,_,_,cur=>cur
  | f+1,to,wide,cur=>
    if to=n then yV n wd T fr to wide cur
    else if wd<wide+(sp+ws.getD to 0) then yV n wd T fr to wide cur
    else nZ ws sp wd n T fr f (to+1) (wide+(sp+ws.getD to 0)) (yV n wd T fr to wide cur)
theorem KJ (ws:List Int) (sp wd:Int) (n:Nat) (T:Nat->Dv) (fr f to:Nat) (wide:Int) (cur:Dv) (h:to=n) : nZ ws sp wd n T fr (f+1) to wide cur=yV n wd T fr to wide cur:=by rw [nZ,if_pos h]
theorem KM (ws:List Int) (sp wd:Int) (n:Nat) (T:Nat->Dv) (fr f to:Nat) (wide:Int) (cur:Dv) (h:wd<wide+(sp+ws.getD to 0)) : nZ ws sp wd n T fr (f+1) to wide cur=yV n wd T fr to wide cur:=by
  rw [nZ];by_cases e:to=n
  · rw [if_pos e]
  · rw [if_neg e,if_pos h]
theorem Rm (ws:List Int) (sp wd:Int) (n:Nat) (T:Nat->Dv) (fr f to:Nat) (wide:Int) (cur:Dv) (h:to≠n) (h':¬ wd<wide+(sp+ws.getD to 0)) : nZ ws sp wd n T fr (f+1) to wide cur=nZ ws sp wd n T fr f (to+1) (wide+(sp+ws.getD to 0)) (yV n wd T fr to wide cur):=by rw [nZ,if_neg h,if_neg h']
def upd (T:Nat->Dv) (j:Nat) (d:Dv):Nat->Dv:=fun i=>if i=j then d else T i
def tab (ws:List Int) (sp wd:Int) (n:Nat):Nat->Nat->Dv
  | 0=>fun _=>⟨0,0,0⟩
  | k+1=>upd (tab ws sp wd n k) (n-(k+1)) (nZ ws sp wd n (tab ws sp wd n k) (n-(k+1)) (k+1) (n-k) (ws.getD (n-(k+1)) 0) (tab ws sp wd n k (n-(k+1))))
structure DX (n k:Nat) (T:Nat->Dv):Prop where
  c0:∀ j,0<=(T j).c/\(T j).c<=k*1099511627776
  l0:∀ j,0<=(T j).l/\(T j).l<=k
  z:∀ j,¬ (n-k<=j/\j<n)->T j=⟨0,0,0⟩
  nx:∀ j,n-k<=j->j<n->(j:Int)<(T j).nx/\(T j).nx<=n
structure GH (n k fr:Nat) (d:Dv):Prop where
  c:0<=d.c/\d.c<=k*1099511627776
  l:0<=d.l/\d.l<=k
  nx:(fr:Int)<d.nx/\d.nx<=n
theorem Uu {x:Int} (h0:0<=x) (h:x<=1048576):0<=x*x/\x*x<=1099511627776:=by have h1:x*x<=1048576*1048576:=Int.mul_le_mul h h h0 (by omega);have h2:0<=x*x:=Int.mul_nonneg h0 h0;omega
theorem TW {n k:Nat} {T:Nat->Dv} (h:DX n k T) {wd:Int} (hw1:wd<=1048576) {fr to:Nat} (ht:fr<to) (htn:to<=n) {wide:Int} (h0:0<=wide):GH n (k+1) fr (tF n wd T to wide):=by
  have hc:=h.c0 to;have hl:=h.l0 to;refine ⟨?_,?_,?_⟩
  · unfold tF
    split
    · rename_i hh
      have:=Uu (x:=wd-wide) (by omega) (by omega);simp only;omega
    · simp only;omega
  · unfold tF;simp only;omega
  · unfold tF;simp only;omega
theorem Uv {n k:Nat} {T:Nat->Dv} (h:DX n k T) {wd:Int} (hw1:wd<=1048576) {fr to:Nat} (ht:fr<to) (htn:to<=n) {wide:Int} (h0:0<=wide) {cur:Dv} (hc:to=fr+1\/GH n (k+1) fr cur) : GH n (k+1) fr (yV n wd T fr to wide cur):=by
  unfold yV;split
  · exact TW h hw1 ht htn h0
  · rcases hc with hc | hc
    · rename_i hh;exact absurd (.inl hc) hh
    · exact hc
theorem Ql {n k:Nat} {T:Nat->Dv} (h:DX n k T) {ws:List Int} {sp wd:Int} (hw1:wd<=1048576) (hs:0<=sp) (hws:∀ x∈ws,(0:Int)<=x) {fr:Nat} : ∀ (f to:Nat) (wide:Int) (cur:Dv),fr<to->to<=n->0<f->0<=wide->(to=fr+1\/GH n (k+1) fr cur)->GH n (k+1) fr (nZ ws sp wd n T fr f to wide cur)
  | 0,_,_,_,_,_,hf,_,_=>absurd hf (by omega)
  | f+1,to,wide,cur,h1,h2,_,h4,h5=>by
    have hu:=Uv h hw1 h1 h2 h4 h5;have hd:0<=ws.getD to 0:=by
      rw [List.getD_eq_getElem?_getD];cases hx:ws[to]? with
      | none=>simp
      | some y=>exact hws y (jpk hx)
    rw [nZ];split
    · exact hu
    · split
      · exact hu
      · cases f with
        | zero=>exact hu
        | succ f=>exact Ql h hw1 hs hws (f+1) _ _ _ (by omega) (by omega) (by omega) (by omega) (.inr hu)
theorem BG (ws:List Int) (sp wd:Int) (n:Nat) (hw1:wd<=1048576) (hs:0<=sp) (hws:∀ x∈ws,(0:Int)<=x):∀ k,k<=n->DX n k (tab ws sp wd n k)
  | 0,_=>⟨fun j=>by simp [tab],fun j=>by simp [tab],fun j _=>rfl,fun j h1 h2=>by omega⟩
  | k+1,hk=>by
    have ih:=BG ws sp wd n hw1 hs hws k (by omega);have hd:0<=ws.getD (n-(k+1)) 0:=by
      rw [List.getD_eq_getElem?_getD];cases hx:ws[n-(k+1)]? with
      | none=>simp
      | some y=>exact hws y (jpk hx)
    have he:=Ql ih hw1 hs hws (fr:=n-(k+1)) (k+1) (n-k) (ws.getD (n-(k+1)) 0) (tab ws sp wd n k (n-(k+1))) (by omega) (by omega) (by omega) hd (.inl (by omega));rw [tab];generalize nZ ws sp wd n (tab ws sp wd n k) (n-(k+1)) (k+1) (n-k) (ws.getD (n-(k+1)) 0) (tab ws sp wd n k (n-(k+1)))=d at *;refine ⟨fun j=>?_,fun j=>?_,fun j hj=>?_,fun j h1 h2=>?_⟩
    · unfold upd;have:=ih.c0 j;split
      · exact he.c
      · push_cast;omega
    · unfold upd;have:=ih.l0 j;split
      · exact he.l
      · push_cast;omega
    · unfold upd;rw [if_neg (by omega)];exact ih.z j (by omega)
    · unfold upd
      by_cases e:j=n-(k+1)
      · rw [if_pos e,e];exact he.nx
      · rw [if_neg e];exact ih.nx j (by omega) h2
def BD (n:Nat) (T:Nat->Dv):Nat->Nat->List Int
  | 0,_=>[]
  | f+1,i=>if i<n then (i:Int)::BD n T f (T i).nx.toNat else []
theorem GL (n:Nat) (T:Nat->Dv) (f i:Nat) (h:¬ i<n):BD n T f i=[]:=by cases f<;>simp [BD,h]
theorem zR (n:Nat) (T:Nat->Dv) (f i:Nat) (h:i<n):BD n T (f+1) i=(i:Int)::BD n T f (T i).nx.toNat:=by rw [BD,if_pos h]
theorem xX (n:Nat) (T:Nat->Dv):∀ f i,(BD n T f i).length<=f
  | 0,_=>by simp [BD]
  | f+1,i=>by
    rw [BD];split
    · simp;exact xX n T f _
    · simp
def brT (ws:List Int) (sp wd:Int):Nat->Dv:=tab ws sp wd ws.length ws.length
def Bz (ws:List Int) (sp wd:Int):List Int:=BD ws.length (brT ws sp wd) ws.length 0
def GK (ws:List Int) (sp wd:Int):Int:=(brT ws sp wd 0).c
theorem sZ (n:Nat) (T:Nat->Dv) (hT:∀ j,j<n->(j:Int)<(T j).nx):∀ (f i:Nat) (x:Int),x∈BD n T f i->(i:Int)<=x/\x<n
  | 0,_,_,h=>by simp [BD] at h
  | f+1,i,x,h=>by
    rw [BD] at h;split at h
    · rename_i hi
      have:=hT i hi;rcases List.mem_cons.1 h with rfl | h
      · omega
      · have ih:=sZ n T hT f _ x h
        omega
    · simp at h
theorem oI (n:Nat) (T:Nat->Dv) (hT:∀ j,j<n->(j:Int)<(T j).nx):∀ (f i:Nat) (k:Nat) (x y:Int),(BD n T f i)[k]?=some x->(BD n T f i)[k+1]?=some y->x<y
  | 0,_,_,_,_,h,_=>by simp [BD] at h
  | f+1,i,k,x,y,h,h'=>by
    rw [BD] at h h';split at h
    · rename_i hi
      rw [if_pos hi] at h';have hn:=hT i hi;cases k with
      | zero=>
        simp at h h';subst h;have:=sZ n T hT f _ y (jpk h');omega
      | succ k=>
        simp at h h';exact oI n T hT f _ k x y h h'
    · simp at h
def dF (l:List ByteArray):List Int:=l.map fun x=>(dA x:Int)
theorem xP (l:List ByteArray):(dF l).length=l.length:=by simp [dF]
def wE (l:List ByteArray) (F:List Int) (i:Nat):Nat:=if i+1<F.length then (F.getD (i+1) 0).toNat else l.length
def wH (F:List Int) (i:Nat):Nat:=(F.getD i 0).toNat
def lF (l:List ByteArray) (F:List Int) (i:Nat):ByteArray:=jB (fun _=>1) ((l.take (wE l F i)).drop (wH F i))
def BH (l:List ByteArray) (F:List Int):List ByteArray:=(List.range F.length).map (lF l F)
def rC (l:List ByteArray) (F:List Int) (k:Nat):List ByteArray:=(List.range k).map (lF l F)
theorem Iy (l:List ByteArray) (F:List Int) (k:Nat):rC l F (k+1)=rC l F k++[lF l F k]:=by unfold rC;rw [List.range_succ,jq0];rfl
theorem Mg (l:List ByteArray) (F:List Int) (k:Nat):(rC l F k).length=k:=by simp [rC]
structure FOk (l:List ByteArray) (F:List Int):Prop where
  len:F.length<=l.length
  ge:∀ i,i<F.length->0<=F.getD i 0/\F.getD i 0<l.length
  inc:∀ i,i+1<F.length->F.getD i 0<F.getD (i+1) 0
  z:0<l.length->F.getD 0 1=0
theorem FOk.lt {l:List ByteArray} {F:List Int} (h:FOk l F) (i:Nat) (hi:i<F.length):wH F i<wE l F i/\wE l F i<=l.length:=by
  have h1:=h.ge i hi;unfold wH wE;split
  · rename_i h2
    have h3:=h.ge (i+1) h2;have h4:=h.inc i h2;omega
  · omega
theorem Oi (l:List ByteArray) (sp wd:Int) (hs:0<=sp) (hd:wd<=1048576):FOk l (Bz (dF l) sp wd):=by
  have hws:∀ x∈dF l,(0:Int)<=x:=by intro x hx;simp [dF] at hx;obtain ⟨a,_,rfl⟩:=hx;omega
  have hT:=BG (dF l) sp wd (dF l).length hd hs hws (dF l).length (joz _);have hnx:∀ j,j<(dF l).length->(j:Int)<(brT (dF l) sp wd j).nx:=fun j hj=>(hT.nx j (by omega) hj).1
  have hl:=xP l;have hget:∀ i,i<(Bz (dF l) sp wd).length->∃ x,(Bz (dF l) sp wd)[i]?=some x/\(Bz (dF l) sp wd).getD i 0=x:=fun i hi=>by
    refine ⟨_,joq hi,?_⟩;rw [List.getD_eq_getElem?_getD,joq hi];rfl
  refine ⟨?_,?_,?_,?_⟩
  · rw [<- hl];exact xX _ _ _ _
  · intro i hi
    obtain ⟨x,hx,e⟩:=hget i hi;rw [e];have:=sZ _ _ hnx _ _ x (jpk hx);omega
  · intro i hi
    obtain ⟨x,hx,e⟩:=hget i (by omega);obtain ⟨y,hy,e'⟩:=hget (i+1) hi;rw [e,e'];exact oI _ _ hnx _ _ i x y hx hy
  · intro h0
    unfold Bz;obtain ⟨m,hm⟩:∃ m,(dF l).length=m+1:=⟨(dF l).length-1,by omega⟩;have:=zR (dF l).length (brT (dF l) sp wd) m 0 (by omega);rw [<- hm] at this;rw [this];rfl
theorem Ap (l:List ByteArray) (S:Nat) (h:∀ x∈l,x.size<=S) (a b:Nat):(jB (fun _=>1) ((l.take a).drop b)).size<=l.length*(1+S):=by
  have h1:=J6 (fun _=>1) 1 S (fun _=>joz _) ((l.take a).drop b) 0 (fun x hx=>h x (List.mem_of_mem_take (List.mem_of_mem_drop hx)));have h2:(jB (fun _=>1) ((l.take a).drop b)).size=(mP (fun _=>1) 0 ((l.take a).drop b)).length:=by simp [jB,ByteArray.size]
  rw [h2];exact Nat.le_trans h1 (Nat.mul_le_mul_right _ (by simp;omega))
open Go.Lib
def UD (c:UInt8):Bool:=c.toNat==32||c.toNat==10
def Gq:List UInt8->List UInt8->List (List UInt8)
  | [],cur=>if cur=[] then [] else [cur]
  | c::t,cur=>if UD c=true then (if cur=[] then Gq t [] else cur::Gq t []) else Gq t (cur++[c])
theorem uD:∀ (x rest cur:List UInt8),(∀ c∈x,UD c=false)->Gq (x++rest) cur=Gq rest (cur++x)
  | [],rest,cur,_=>by simp
  | c::t,rest,cur,h=>by
    rw [List.cons_append,Gq,if_neg (by simp [h c List.mem_cons_self]),uD t rest _ (fun d hd=>h d (List.mem_cons_of_mem _ hd))];simp
theorem Qm (s:ByteArray) (i:Nat) (_hi:i<s.size) (h:128<=(s.get! i).toNat) : 128<=(Utf8.decode s i).1/\∀ k,k<(Utf8.decode s i).2->128<=(s.get! (i+k)).toNat:=by
  rw [decode_at];have g1:=UInt8.toNat_lt (s.get! (i+1));have g2:=UInt8.toNat_lt (s.get! (i+2));have g3:=UInt8.toNat_lt (s.get! (i+3));generalize hb0:(s.get! i).toNat=b0 at *;generalize hb1:(s.get! (i+1)).toNat=b1 at *;generalize hb2:(s.get! (i+2)).toNat=b2 at *;generalize hb3:(s.get! (i+3)).toNat=b3 at *;unfold decodeN;have one:∀ k,k<1->128<=(s.get! (i+k)).toNat:=fun k hk=>by
    obtain rfl:k=0:=by omega
    rw [Nat.add_zero,hb0];exact h
  rw [if_neg (by omega)];split
  · rename_i hc
    split
    · refine ⟨by simp only;omega,fun k hk=>?_⟩
      simp only at hk;have:k=0\/k=1:=by omega
      rcases this with rfl | rfl
      · exact one 0 (by omega)
      · rw [hb1];omega
    · exact ⟨by simp,one⟩
  · split
    · rename_i hc
      split
      · refine ⟨by simp only;omega,fun k hk=>?_⟩
        simp only at hk;have:k=0\/k=1\/k=2:=by omega
        rcases this with rfl | rfl | rfl
        · exact one 0 (by omega)
        · rw [hb1];omega
        · rw [hb2];omega
      · exact ⟨by simp,one⟩
    · split
      · rename_i hc
        split
        · refine ⟨by simp only;omega,fun k hk=>?_⟩
          simp only at hk;have:k=0\/k=1\/k=2\/k=3:=by omega
          rcases this with rfl | rfl | rfl | rfl
          · exact one 0 (by omega)
          · rw [hb1];omega
          · rw [hb2];omega
          · rw [hb3];omega
        · exact ⟨by simp,one⟩
      · exact ⟨by simp,one⟩
theorem TY (s:ByteArray) (i:Nat) (h:(s.get! i).toNat<128):Utf8.decode s i=((s.get! i).toNat,1):=by rw [decode_at];unfold decodeN;rw [if_pos h]
theorem xY (s:ByteArray) (i:Nat) (h:i<s.size):s.data.toList[i]?=some (s.get! i):=by
  have h':i<s.data.toList.length:=by simpa using h
  rw [joq h'];congr 1;cases s with | mk bs=>
  show bs.toList[i]=bs[i]!;rw [getElem!_pos bs i h];simp
theorem rG (s:ByteArray):∀ (f i fr:Nat) (acc:List ByteArray),fr<=i->i<=s.size->s.size<=i+f -> (Ed s (nE s f i fr acc)).map (·.data.toList)=acc.map (·.data.toList)++Gq (s.data.toList.drop i) ((s.data.toList.take i).drop fr)
  | f,i,fr,acc,h1,h2,h3=>by
    by_cases hi:i<s.size
    · obtain ⟨f,rfl⟩:∃ f',f=f'+1:=⟨f-1,by omega⟩
      have hd:=Iz s i hi;have hw:=width_pos s i;have hsz:s.data.toList.length=s.size:=Array.length_toList;have hex:(s.extract fr i).data.toList=(s.data.toList.take i).drop fr:=by simp [ByteArray.data_extract,Array.toList_extract,List.drop_take]
      have hne:(((s.data.toList.take i).drop fr)=[])↔¬ fr<i:=by rw [List.drop_eq_nil_iff,jrk,hsz];omega
      by_cases hb:(s.get! i).toNat<128
      · have hdec:=TY s i hb
        have hdr:s.data.toList.drop i=s.get! i::s.data.toList.drop (i+1):=by rw [List.drop_eq_getElem_cons (by omega)];congr 1;have:=xY s i hi;rw [joq (by omega)] at this;exact Option.some.inj this
        have hsp:nA (Utf8.decode s i).1=UD (s.get! i):=by rw [hdec];unfold nA UD;simp only;rw [Bool.eq_iff_iff];simp;omega
        have ht1:s.data.toList.take (i+1)=s.data.toList.take i++[s.get! i]:=by rw [List.take_add_one,xY s i hi];rfl
        rw [nE,if_pos hi,hsp,hdec];simp only;rw [hdr,Gq];cases hs:UD (s.get! i)
        · simp only [Bool.false_eq_true,if_false]
          rw [rG s f (i+1) fr acc (by omega) (by omega) (by omega),ht1];rw [List.drop_append_of_le_length (by rw [jrk,hsz];omega)]
        · simp only [if_true]
          rw [rG s f (i+1) (i+1) _ (joz _) (by omega) (by omega)];have hnil:(s.data.toList.take (i+1)).drop (i+1)=[]:=by rw [List.drop_eq_nil_iff,jrk];omega
          rw [hnil];by_cases hfi:fr<i
          · rw [if_pos hfi,if_neg (by rw [hne];omega)]
            rw [jq0,List.map_cons,List.map_nil,hex,List.append_assoc];rfl
          · rw [if_neg hfi,if_pos (by rw [hne];exact hfi)]
      · have hh:=Qm s i hi (by omega)
        have hsp:nA (Utf8.decode s i).1=false:=by unfold nA;have:=hh.1;rw [Bool.or_eq_false_iff,beq_eq_false_iff_ne,beq_eq_false_iff_ne];omega
        rw [nE,if_pos hi,hsp];simp only [Bool.false_eq_true,if_false];generalize Utf8.decode s i=d at *;obtain ⟨d1,d2⟩:=d;simp only at hd hw hh ⊢;rw [rG s f (i+d2) fr acc (by omega) hd (by omega)];have hdr:s.data.toList.drop i=(s.data.toList.drop i).take d2++s.data.toList.drop (i+d2):=by rw [<- List.drop_drop,List.take_append_drop]
        have hx:∀ c∈(s.data.toList.drop i).take d2,UD c=false:=by
          intro c hc;obtain ⟨k,hk,e⟩:=List.mem_iff_getElem.1 hc;have hk2:k<d2:=by simp at hk;omega
          have:(s.data.toList.drop i)[k]?=some c:=by rw [<- e,<- joq,List.getElem?_take,if_pos hk2]
          rw [List.getElem?_drop,xY s (i+k) (by omega)] at this;have e2:=Option.some.inj this;have:=hh.2 k hk2;unfold UD;rw [<- e2,Bool.or_eq_false_iff,beq_eq_false_iff_ne,beq_eq_false_iff_ne];omega
        rw [hdr,uD _ _ _ hx];congr 2;rw [List.take_add,List.drop_append_of_le_length (by rw [jrk,hsz];omega)]
    · have he:i=s.size:=by omega
      subst he;have hsz:s.data.toList.length=s.size:=Array.length_toList;rw [FV s _ _ _ _ hi];rw [List.drop_eq_nil_of_le (by omega),List.take_of_length_le (by omega),Gq];unfold Ed;simp only;by_cases hf:fr<s.size
      · rw [if_pos hf,if_neg (by rw [List.drop_eq_nil_iff];omega)]
        have hex:(s.extract fr s.size).data.toList=s.data.toList.drop fr:=by simp only [ByteArray.data_extract,Array.toList_extract,List.extract_eq_take_drop];rw [List.take_of_length_le (by rw [List.length_drop,hsz];omega)]
        rw [jq0,List.map_cons,List.map_nil,hex]
      · rw [if_neg hf,if_pos (by rw [List.drop_eq_nil_iff];omega)]
        simp
termination_by f=>f
open Go.Lib
theorem tV (s:ByteArray):(fJ s).map (·.data.toList)=Gq s.data.toList []:=by have h:=rG s s.size 0 0 [] (joz _) (Nat.zero_le _) (by omega);simpa [fJ] using h
open Go.Lib
def tot:List (List UInt8)->Nat
  | []=>0
  | x::t=>x.length+1+tot t
theorem lT:∀ (l cur:List UInt8),tot (Gq l cur)<=l.length+cur.length+1
  | [],cur=>by rw [Gq];split<;>simp [tot]
  | c::t,cur=>by
    rw [Gq];split
    · split
      · rename_i h
        have:=lT t [];simp at this ⊢;omega
      · have:=lT t []
        simp [tot] at this ⊢;omega
    · have:=lT t (cur++[c])
      simp at this ⊢;omega
theorem FX:∀ (l:List ByteArray) (i:Nat),0<i->(mP (fun _=>1) i l).length=tot (l.map (·.data.toList))
  | [],_,_=>rfl
  | x::t,i,h=>by
    rw [mP,if_neg (by omega)];simp only [List.length_append,List.length_replicate,List.map_cons,tot,FX t (i+1) (by omega)];omega
theorem Yj (l:List ByteArray):(jB (fun _=>1) l).size+1<=tot (l.map (·.data.toList))+1/\(l≠[]->(jB (fun _=>1) l).size+1=tot (l.map (·.data.toList))):=by
  have hs:(jB (fun _=>1) l).size=(mP (fun _=>1) 0 l).length:=by simp [jB,ByteArray.size]
  rw [hs];cases l with
  | nil=>simp [mP,tot]
  | cons x t=>
    have:(mP (fun _=>1) 0 (x::t)).length+1=tot ((x::t).map (·.data.toList)):=by rw [mP,if_pos rfl];simp only [List.nil_append,List.length_append,FX t 1 (by omega),List.map_cons,tot];omega
    exact ⟨by omega,fun _=>this⟩
theorem xZ (a b:List (List UInt8)):tot (a++b)=tot a+tot b:=by
  induction a with
  | nil=>simp [tot]
  | cons x t ih=>simp [tot,ih];omega
theorem LU (s:ByteArray) (a b:Nat):(jB (fun _=>1) (((fJ s).take a).drop b)).size<=s.size:=by
  have h1:=lT s.data.toList [];rw [<- tV] at h1;have h2:tot ((((fJ s).take a).drop b).map (·.data.toList))<=tot ((fJ s).map (·.data.toList)):=by
    have e1:(fJ s).map (·.data.toList)=((fJ s).take a).map (·.data.toList)++((fJ s).drop a).map (·.data.toList):=by rw [<- jq0,List.take_append_drop]
    have e2:((fJ s).take a).map (·.data.toList)=(((fJ s).take a).take b).map (·.data.toList)++(((fJ s).take a).drop b).map (·.data.toList):=by rw [<- jq0,List.take_append_drop]
    rw [e1,e2,xZ,xZ];omega
  have hsz:s.data.toList.length=s.size:=Array.length_toList;rw [hsz] at h1;by_cases h:((fJ s).take a).drop b=[]
  · rw [h];exact Nat.zero_le _
  · have:=(Yj (((fJ s).take a).drop b)).2 h
    simp at h1;omega
end Go.Proofs.YtdneicipdlofiaaGreatDoor

