/-
  The laws of the evaluator's tables and lists.
-/
import Derived.Test.YtachglcffimmeaaGreatR0
import Derived.Below
import Derived.ProofKit
set_option linter.unusedVariables false
set_option linter.unusedSimpArgs false
namespace Go.Proofs.YtachglcffimmeaaGreat.Ev
open Go
theorem Tr.get_put{α:Type}: ∀(f:Nat) (t:Tr α) (k:Nat) (x:Option α) (j:Nat),k+1<2^f→(Tr.put f t k x).get j=if j=k then x else t.get j:=by
 intro f
 induction f with
 |zero=>intro t k x j h;simp at h
 |succ f ih=>
  intro t k x j h
  have hp:(2:Nat)^(f+1)=2*2^f:=by rw[Nat.pow_succ];omega
  have hl: ∀(v:Option α) (l r:Tr α),(cond (Nat.beq k 0) (Tr.node x l r) (cond (Nat.beq (k%2) 1) (.node v (Tr.put f l (k/2) x) r) (.node v l (Tr.put f r (k/2-1) x)))).get j=if j=k then x else(Tr.node v l r).get j:=by
   intro v l r
   cases hk:Nat.beq k 0
   ·have hk0:k≠0:=Nat.ne_of_beq_eq_false hk
    cases ho:Nat.beq (k%2) 1
    ·have hk1:k%2≠1:=Nat.ne_of_beq_eq_false ho
     simp only[cond_false,cond_true,Tr.get]
     cases hj:Nat.beq j 0
     ·have hj0:j≠0:=Nat.ne_of_beq_eq_false hj
      cases hjo:Nat.beq (j%2) 1
      ·have hj1:j%2≠1:=Nat.ne_of_beq_eq_false hjo
       simp only[cond_false]
       rw[ih r (k/2-1) x (j/2-1) (by omega)]
       by_cases e:j=k
       ·simp[e]
       ·rw[if_neg e,if_neg (by omega)]
      ·have hj1:j%2=1:=Nat.eq_of_beq_eq_true hjo
       simp only[cond_false,cond_true]
       rw[if_neg (by intro e;subst e;exact hk1 hj1)]
     ·have hj0:j=0:=Nat.eq_of_beq_eq_true hj
      simp only[cond_true]
      rw[if_neg (by omega)]
    ·have hk1:k%2=1:=Nat.eq_of_beq_eq_true ho
     simp only[cond_false,cond_true,Tr.get]
     cases hj:Nat.beq j 0
     ·have hj0:j≠0:=Nat.ne_of_beq_eq_false hj
      cases hjo:Nat.beq (j%2) 1
      ·have hj1:j%2≠1:=Nat.ne_of_beq_eq_false hjo
       simp only[cond_false]
       rw[if_neg (by intro e;subst e;exact hj1 hk1)]
      ·have hj1:j%2=1:=Nat.eq_of_beq_eq_true hjo
       simp only[cond_false,cond_true]
       rw[ih l (k/2) x (j/2) (by omega)]
       by_cases e:j=k
       ·simp[e]
       ·rw[if_neg e,if_neg (by omega)]
     ·have hj0:j=0:=Nat.eq_of_beq_eq_true hj
      simp only[cond_true]
      rw[if_neg (by omega)]
   ·have hk0:k=0:=Nat.eq_of_beq_eq_true hk
    simp only[cond_true,Tr.get]
    cases hj:Nat.beq j 0
    ·have hj0:j≠0:=Nat.ne_of_beq_eq_false hj
     simp only[cond_false]
     rw[if_neg (by omega)]
    ·have hj0:j=0:=Nat.eq_of_beq_eq_true hj
     simp only[cond_true]
     rw[if_pos (by omega)]
  cases t with
  |leaf=>
   simp only[Tr.put]
   rw[hl none .leaf .leaf]
   have:(Tr.node (none:Option α) .leaf .leaf).get j=(Tr.leaf:Tr α).get j:=by
    simp only[Tr.get]
    cases Nat.beq j 0<;>simp
   rw[this]
  |node v l r=>simp only[Tr.put];exact hl v l r
theorem Tr.get_set{α:Type}(t:Tr α)(k:Nat)(x:Option α)(j:Nat):(t.set k x).get j=if j=k then x else t.get j:=by
 unfold Tr.set
 refine Tr.get_put _ _ _ _ _ ?_
 have h:= @Nat.lt_log2_self k
 have hp:(2:Nat)^(Nat.log2 k+2)=2*2^(Nat.log2 k+1):=by rw[Nat.pow_succ];omega
 omega
theorem B9_(n:Nat)(l:List Value):H3_ n l=l.drop n:=by
 induction n generalizing l with
 |zero=>rfl
 |succ n ih=>cases l with
  |nil=>rfl
  |cons v l=>simp only[H3_];exact ih l
theorem q5_{n:Nat}{l r:List Value}(h:s0_ n l=some r):n≤l.length∧r=l.take n:=by
 induction n generalizing l r with
 |zero=>simp only[s0_,Option.some.injEq]at h;subst h;simp
 |succ n ih=>
  cases l with
  |nil=>simp[s0_]at h
  |cons v l=>
   simp only[s0_]at h
   split at h
   ·rename_i r' hr
    obtain⟨h1,h2⟩:=ih hr
    simp only[Option.some.injEq]at h
    subst h h2
    exact⟨by simp;omega,by simp⟩
   ·simp at h
theorem G2_{vs:List Value}: ∀{n:Nat} {l r:List Value},layL n vs l=some r→r.length=l.length∧(vs≠[]→n+vs.length≤l.length)∧
  ∀i,r[i]? =if n≤i∧i<n+vs.length then vs[i-n]? else l[i]? :=by
 intro n l
 induction l generalizing n vs with
 |nil=>
  intro r h
  cases vs with
  |nil=>simp[layL]at h;subst h;refine⟨rfl,by simp,fun i=> ?_⟩;rw[if_neg (by simp)]
  |cons v vs=>cases n<;>simp[layL]at h
 |cons x l ih=>
  intro r h
  cases vs with
  |nil=>simp[layL]at h;subst h;refine⟨rfl,by simp,fun i=> ?_⟩;rw[if_neg (by simp)]
  |cons v vs=>
   cases n with
   |zero=>
    simp only[layL]at h
    split at h
    ·rename_i r' hr
     obtain⟨h1,h2,h3⟩:=ih hr
     simp only[Option.some.injEq]at h
     subst h
     refine⟨by simp[h1],fun _=> ?_,fun i=> ?_⟩
     ·cases vs with
      |nil=>simp
      |cons u vs=>have:=h2 (by simp);simp at this ⊢;omega
     ·cases i with
      |zero=>simp
      |succ i=>
       rw[List.getElem?_cons_succ,h3 i]
       by_cases hi:i<vs.length
       ·rw[if_pos (by omega),if_pos (by simp;omega)];simp
       ·rw[if_neg (by omega),if_neg (by simp;omega)];simp
    ·simp at h
   |succ n=>
    simp only[layL]at h
    split at h
    ·rename_i r' hr
     obtain⟨h1,h2,h3⟩:=ih hr
     simp only[Option.some.injEq]at h
     subst h
     refine⟨by simp[h1],fun _=> ?_,fun i=> ?_⟩
     ·have:=h2 (by simp);simp at this ⊢;omega
     ·cases i with
      |zero=>simp
      |succ i=>
       rw[List.getElem?_cons_succ,h3 i]
       by_cases hi:n≤i∧i<n+(v::vs).length
       ·rw[if_pos hi,if_pos (by omega),show i+1-(n+1)=i-n by omega]
       ·rw[if_neg hi,if_neg (by omega)];simp
    ·simp at h
structure Spot where
 blk:Nat
 base:Nat
 ex:Bool
 es:Nat
 room:Nat
 void:Bool
 fz:Nat→Prop
abbrev Rho:=Nat→Option Spot
abbrev Mem:=Nat→Option AObj
def upd{α:Type}(f:Nat→α)(k:Nat)(v:α):Nat→α:=fun x=>if x=k then v else f x
theorem a1_{α:Type}(f:Nat→α)(k:Nat)(v:α):upd f k v k=v:=if_pos rfl
theorem a2_{α:Type}(f:Nat→α){k x:Nat}(v:α)(h:x≠k):upd f k v x=f x:=if_neg h
theorem b0_{α:Type}(t:Tr α)(k:Nat)(x:Option α):(t.set k x).get=upd t.get k x:=funext fun j=>Tr.get_set t k x j
def Sub(ρ ρ':Rho):Prop:= ∀a s,ρ a=some s→ρ' a=some s
theorem Sub.refl(ρ:Rho):Sub ρ ρ:=fun _ _ h=>h
theorem Sub.trans{a b c:Rho}(h:Sub a b)(k:Sub b c):Sub a c:=fun x s e=>k x s (h x s e)
theorem Sub.upd{ρ:Rho}{n:Nat}(s:Spot)(h:ρ n=none):Sub ρ (upd ρ n (some s)):=fun a t e=>by
 have:a≠n:=fun he=>by subst he;rw[h]at e;cases e
 rw[a2_ _ _ this];exact e
inductive VR (ρ:Rho):Value→Value→Prop where
 |any (v:Value):VR ρ bad v
 |bool (b:Bool):VR ρ (.bool b) (.bool b)
 |int (k:IntKind) (n:Int):VR ρ (.int k n) (.int k n)
 |float (k:FloatKind) (b:Nat):VR ρ (.float k b) (.float k b)
 |nan (k:FloatKind) (b b':Nat) (h:nanB k b=true) (h':nanB k b'=true):VR ρ (.float k b) (.float k b')
 |string (s:ByteArray):VR ρ (.string s) (.string s)
 |ptrNil:VR ρ (.pointer none) (.pointer none)
 |ptr (a o:Nat) (s:Spot) (h:ρ a=some s):VR ρ (.pointer (some ⟨a,o,none⟩)) (.pointer (some ⟨s.blk,s.base+o,none⟩))
 |ptrI (a j i:Nat) (s:Spot) (h:ρ a=some s):VR ρ (.pointer (some ⟨a,j,some i⟩)) (.pointer (some ⟨s.blk,s.base+i*s.es+j,none⟩))
 |sliceNil:VR ρ (.slice none 0 0) (.slice none 0 0)
 |sliceI (a i:Nat) (s:Spot) (n c c' o':Nat) (h:ρ a=some s) (hn:n≤c') (hc:c≠0→0<n) (hr:s.ex=false→o'+c'*s.es≤s.room) (hv:s.void=false) (ho:o'=s.base+i*s.es∨c'=0):
   VR ρ (.slice (some ⟨a,0,some i⟩) n c) (.slice (some ⟨s.blk,o',none⟩) n c')
 |sliceE (a i c':Nat) (x:Addr) (s:Spot) (h:ρ a=some s) (hx:s.ex=true):VR ρ (.slice (some ⟨a,0,some i⟩) 0 0) (.slice (some x) 0 c')
 |sliceN (a i:Nat):VR ρ (.slice (some ⟨a,0,some i⟩) 0 1) (.slice none 0 0)
 |sliceZ (a i:Nat) (x:Addr):VR ρ (.slice (some ⟨a,0,some i⟩) 0 0) (.slice (some x) 0 0)
 |sliceX (a i:Nat) (x:Option Addr):VR ρ (.slice (some ⟨a,1,some i⟩) 0 0) (.slice x 0 0)
 |slice (a o:Nat) (s:Spot) (n c c' o':Nat) (h:ρ a=some s) (hn:n≤c) (hc:c≤c') (hx:s.ex=true→c'=c) (hr:s.ex=false→o'+c'*s.es≤s.room) (ho:o'=s.base+o∨c'=0):
   VR ρ (.slice (some ⟨a,o,none⟩) n c) (.slice (some ⟨s.blk,o',none⟩) n c')
 |mapNil:VR ρ (.map none) (.map none)
 |map (a:Nat) (s:Spot) (h:ρ a=some s):VR ρ (.map (some a)) (.map (some s.blk))
 |nilFunc:VR ρ .nilFunc .nilFunc
 |func (fn:Fn) (a a' b b':Array Value) (ha:a.size=a'.size) (hb:b.size=b'.size) (h1: ∀(i:Nat) (x y:Value),a[i]? =some x→a'[i]? =some y→VR ρ x y) (h2: ∀(i:Nat) (x y:Value),b[i]? =some x→b'[i]? =some y→VR ρ x y):
   VR ρ (.func fn a b) (.func fn a' b')
 |nilIface:VR ρ .nilIface .nilIface
 |iface (t:TypeId) (v v':Value) (h:VR ρ v v'):VR ρ (.iface t v) (.iface t v')
 |agg (a a':Array Value) (ha:a.size=a'.size) (h: ∀(i:Nat) (x y:Value),a[i]? =some x→a'[i]? =some y→VR ρ x y):VR ρ (.agg a) (.agg a')
 |tuple (a a':Array Value) (ha:a.size=a'.size) (h: ∀(i:Nat) (x y:Value),a[i]? =some x→a'[i]? =some y→VR ρ x y):VR ρ (.tuple a) (.tuple a')
theorem VR.mono{ρ ρ':Rho}(hs:Sub ρ ρ'){v v':Value}(h:VR ρ v v'):VR ρ' v v':=by
 induction h with
 |any v=>exact .any v
 |bool b=>exact .bool b
 |int k n=>exact .int k n
 |float k b=>exact .float k b
 |nan k b b' h h'=>exact .nan k b b' h h'
 |string s=>exact .string s
 |ptrNil=>exact .ptrNil
 |ptr a o s h=>exact .ptr a o s (hs _ _ h)
 |ptrI a j i s h=>exact .ptrI a j i s (hs _ _ h)
 |sliceI a i s n c c' o' h hn hc hr hv ho=>exact .sliceI a i s n c c' o' (hs _ _ h) hn hc hr hv ho
 |sliceE a i c' x s h hx=>exact .sliceE a i c' x s (hs _ _ h) hx
 |sliceN a i=>exact .sliceN a i
 |sliceZ a i x=>exact .sliceZ a i x
 |sliceX a i x=>exact .sliceX a i x
 |sliceNil=>exact .sliceNil
 |slice a o s n c c' o' h hn hc hx hr ho=>exact .slice a o s n c c' o' (hs _ _ h) hn hc hx hr ho
 |mapNil=>exact .mapNil
 |map a s h=>exact .map a s (hs _ _ h)
 |nilFunc=>exact .nilFunc
 |func fn a a' b b' ha hb h1 h2 ih1 ih2=>exact .func fn a a' b b' ha hb ih1 ih2
 |nilIface=>exact .nilIface
 |iface t v v' h ih=>exact .iface t v v' ih
 |agg a a' ha h ih=>exact .agg a a' ha ih
 |tuple a a' ha h ih=>exact .tuple a a' ha ih
def VRL(ρ:Rho)(l l':List Value):Prop:=l.length=l'.length∧ ∀(i:Nat) (x y:Value),l[i]? =some x→l'[i]? =some y→VR ρ x y
theorem VRL.mono{ρ ρ':Rho}(hs:Sub ρ ρ'){l l':List Value}(h:VRL ρ l l'):VRL ρ' l l':=⟨h.1,fun i x y a b=>(h.2 i x y a b).mono hs⟩
theorem VRL.nil(ρ:Rho):VRL ρ [] []:=⟨rfl,fun i x y h=>by simp at h⟩
theorem VRL.cons{ρ:Rho}{x y:Value}{l l':List Value}(h:VR ρ x y)(hl:VRL ρ l l'):VRL ρ (x::l) (y::l'):=by
 refine⟨by simp[hl.1],fun i a b ha hb=> ?_⟩
 cases i with
 |zero=>simp at ha hb;subst ha hb;exact h
 |succ i=>exact hl.2 i a b (by simpa using ha) (by simpa using hb)
theorem VRL.uncons{ρ:Rho}{x:Value}{l l':List Value}(h:VRL ρ (x::l) l'): ∃y m,l'=y::m∧VR ρ x y∧VRL ρ l m:=by
 cases l' with
 |nil=>have:=h.1;simp at this
 |cons y m=>exact⟨y,m,rfl,h.2 0 x y (by simp) (by simp),⟨by have:=h.1;simpa using this,fun i a b ha hb=>h.2 (i+1) a b (by simpa using ha) (by simpa using hb)⟩⟩
theorem VRL.nil_inv{ρ:Rho}{l':List Value}(h:VRL ρ [] l'):l'=[]:=List.eq_nil_of_length_eq_zero h.1.symm
theorem VRL.append{ρ:Rho}{a a' b b':List Value}(h:VRL ρ a a')(k:VRL ρ b b'):VRL ρ (a++b) (a'++b'):=by
 refine⟨by simp[h.1,k.1],fun i x y hx hy=> ?_⟩
 rcases Nat.lt_or_ge i a.length with hi|hi
 ·rw[List.getElem?_append_left hi]at hx
  rw[List.getElem?_append_left (by have:=h.1;omega)]at hy
  exact h.2 i x y hx hy
 ·rw[List.getElem?_append_right hi]at hx
  rw[List.getElem?_append_right (by have:=h.1;omega),←h.1]at hy
  exact k.2 _ x y hx hy
theorem VRL.take{ρ:Rho}{a a':List Value}(n:Nat)(h:VRL ρ a a'):VRL ρ (a.take n) (a'.take n):=by
 refine⟨by simp[h.1],fun i x y hx hy=> ?_⟩
 rw[List.getElem?_take]at hx hy
 split at hx
 ·rename_i hi;rw[if_pos hi]at hy;exact h.2 i x y hx hy
 ·cases hx
theorem VRL.drop{ρ:Rho}{a a':List Value}(n:Nat)(h:VRL ρ a a'):VRL ρ (a.drop n) (a'.drop n):=
 ⟨by simp[h.1],fun i x y hx hy=>h.2 (n+i) x y (by simpa using hx) (by simpa using hy)⟩
theorem VRL.get{ρ:Rho}{a a':List Value}(h:VRL ρ a a'){i:Nat}{x:Value}(hx:a[i]? =some x): ∃y,a'[i]? =some y∧VR ρ x y:=by
 have hi:i<a'.length:=by
  rw[←h.1]
  exact(List.getElem?_eq_some_iff.1 hx).1
 exact⟨a'[i],by simp[hi],h.2 i x _ hx (by simp[hi])⟩
theorem VR.agg'{ρ:Rho}{l l':List Value}(h:VRL ρ l l'):VR ρ (.agg l.toArray) (.agg l'.toArray):= .agg _ _ (by simpa using h.1) (fun i x y hx hy=>h.2 i x y (by simpa using hx) (by simpa using hy))
theorem VR.tuple'{ρ:Rho}{l l':List Value}(h:VRL ρ l l'):VR ρ (.tuple l.toArray) (.tuple l'.toArray):= .tuple _ _ (by simpa using h.1) (fun i x y hx hy=>h.2 i x y (by simpa using hx) (by simpa using hy))
theorem VRL.of_arrays{ρ:Rho}{a a':Array Value}(ha:a.size=a'.size)(h: ∀(i:Nat) (x y:Value),a[i]? =some x→a'[i]? =some y→VR ρ x y):VRL ρ a.toList a'.toList:=
 ⟨by simpa using ha,fun i x y hx hy=>h i x y (by simpa using hx) (by simpa using hy)⟩
theorem VR.ground{ρ:Rho}: ∀(n:Nat) {v v':Value},Ev.ground n v=true→VR ρ v v'→v'=v:=by
 intro n
 induction n with
 |zero=>intro v v' hg h;cases h<;>simp[Ev.ground,bad]at hg<;>first|rfl|simp_all
 |succ n ih=>
  have key: ∀(a a':Array Value),a.size=a'.size→(∀(i:Nat) (x y:Value),a[i]? =some x→a'[i]? =some y→VR ρ x y)→a.toList.all (Ev.ground n)=true→a'=a:=by
   intro a a' hs h hg
   apply Array.ext hs.symm
   intro i h1 h2
   have h3:=h i a[i] a'[i] (by simp[h2]) (by simp[h1])
   refine ih ?_ h3
   rw[List.all_eq_true]at hg
   exact hg _ (by simp)
  intro v v' hg h
  cases h with
  |any v=>simp[Ev.ground,bad]at hg
  |nan k b b' h h'=>simp[Ev.ground,h]at hg
  |ptr=>simp[Ev.ground]at hg
  |ptrI=>simp[Ev.ground]at hg
  |sliceI=>simp[Ev.ground]at hg
  |sliceE=>simp[Ev.ground]at hg
  |sliceN=>simp[Ev.ground]at hg
  |sliceZ=>simp[Ev.ground]at hg
  |sliceX=>simp[Ev.ground]at hg
  |slice=>simp[Ev.ground]at hg
  |map=>simp[Ev.ground]at hg
  |func fn a a' b b' ha hb h1 h2=>
   simp only[Ev.ground,Bool.and_eq_true]at hg
   rw[key a a' ha h1 hg.1,key b b' hb h2 hg.2]
  |iface t v v' h=>simp only[Ev.ground]at hg;rw[ih hg h]
  |agg a a' ha h=>simp only[Ev.ground]at hg;rw[key a a' ha h hg]
  |tuple a a' ha h=>simp only[Ev.ground]at hg;rw[key a a' ha h hg]
  |_=>rfl
theorem VR.refl{ρ:Rho}: ∀(n:Nat) {v:Value},Ev.ground n v=true→VR ρ v v:=by
 intro n
 induction n with
 |zero=>
  intro v hg
  cases v with
  |bool b=>exact .bool b
  |int k n=>exact .int k n
  |float k b=>exact .float k b
  |string s=>exact .string s
  |pointer a=>cases a with|none=>exact .ptrNil|some a=>simp[Ev.ground]at hg
  |slice a n c=>cases a with
   |none=>cases n<;>cases c<;>first|exact .sliceNil|simp[Ev.ground]at hg
   |some a=>simp[Ev.ground]at hg
  |map r=>cases r with|none=>exact .mapNil|some r=>simp[Ev.ground]at hg
  |nilFunc=>exact .nilFunc
  |nilIface=>exact .nilIface
  |_=>simp[Ev.ground]at hg
 |succ n ih=>
  have key: ∀(a:Array Value),a.toList.all (Ev.ground n)=true→ ∀(i:Nat) (x y:Value),a[i]? =some x→a[i]? =some y→VR ρ x y:=by
   intro a hg i x y hx hy
   rw[hx]at hy;cases hy
   rw[List.all_eq_true]at hg
   exact ih (hg x (by simpa using Array.mem_of_getElem? hx))
  intro v hg
  cases v with
  |bool b=>exact .bool b
  |int k n=>exact .int k n
  |float k b=>exact .float k b
  |string s=>exact .string s
  |pointer a=>cases a with|none=>exact .ptrNil|some a=>simp[Ev.ground]at hg
  |slice a n c=>cases a with
   |none=>cases n<;>cases c<;>first|exact .sliceNil|simp[Ev.ground]at hg
   |some a=>simp[Ev.ground]at hg
  |map r=>cases r with|none=>exact .mapNil|some r=>simp[Ev.ground]at hg
  |nilFunc=>exact .nilFunc
  |nilIface=>exact .nilIface
  |func fn a b=>
   simp only[Ev.ground,Bool.and_eq_true]at hg
   exact .func fn a a b b rfl rfl (key a hg.1) (key b hg.2)
  |iface t v=>simp only[Ev.ground]at hg;exact .iface t v v (ih hg)
  |agg a=>simp only[Ev.ground]at hg;exact .agg a a rfl (key a hg)
  |tuple a=>simp only[Ev.ground]at hg;exact .tuple a a rfl (key a hg)
  |_=>simp[Ev.ground]at hg
theorem q8_{ρ:Rho}{v:Value}(h:w5_ v=true):VR ρ v v:=by
 cases v with
 |float k b=>exact .float k b
 |_=>exact VR.refl 1 h
def Frz(ρ:Rho)(b:Nat):Prop:= ∃a s,ρ a=some s∧s.fz b
theorem Frz.mono{ρ ρ':Rho}(hs:Sub ρ ρ'){b:Nat}(h:Frz ρ b):Frz ρ' b:=by
 obtain⟨a,s,h1,h2⟩:=h
 exact⟨a,s,hs a s h1,h2⟩
theorem Frz.upd_inv{ρ:Rho}{n:Nat}{s:Spot}{b:Nat}(h:Frz (upd ρ n (some s)) b):Frz ρ b∨s.fz b:=by
 obtain⟨a,t,h1,h2⟩:=h
 by_cases ha:a=n
 ·subst ha;rw[a1_]at h1;cases h1;exact .inr h2
 ·rw[a2_ _ _ ha]at h1;exact .inl ⟨a,t,h1,h2⟩
def nofz(_:Nat):Prop:=False
theorem Frz.upd_no{ρ:Rho}{n:Nat}{s:Spot}(hz: ∀b,¬s.fz b){b:Nat}(h:Frz (upd ρ n (some s)) b):Frz ρ b:=by
 rcases h.upd_inv with h|h
 ·exact h
 ·exact absurd h (hz b)
def I3_:Rho:=fun _=>none
theorem o9_(ρ:Rho):Sub I3_ ρ:=fun a s h=>by cases h
def TR(w:World)(F:Nat→Prop):Td→Value→Prop
 | .sc x,y=>VR I3_ x y
 | .fr es n c e,y=>(n=0∧c=1∧y= .slice none 0 0)∨(n=0∧c=0∧ ∃a c',y= .slice (some a) 0 c')∨
   (0<n∧ ∃b o c',y= .slice (some ⟨b,o,none⟩) n c'∧n≤c'∧F b∧ ∀i,i<n→ ∀j,j<es→ ∃z,w.cell? ⟨b,o+i*es+j,none⟩=some z∧z.oneCell'=true∧TR w F (e i j) z)
theorem TR.kept{w w':World}{F F':Nat→Prop}(hF: ∀b,F b→F' b)(hw: ∀b,F b→w'.heap[b]? =w.heap[b]?): ∀{t:Td} {y:Value},TR w F t y→TR w' F' t y:=by
 intro t
 induction t with
 |sc x=>intro y h;exact h
 |fr es n c e ih=>
  intro y h
  rcases h with h|h|⟨h0,b,o,c',h1,h2,h3,h4⟩
  ·exact .inl h
  ·exact .inr (.inl h)
  ·refine .inr (.inr ⟨h0,b,o,c',h1,h2,hF b h3,fun i hi j hj=> ?_⟩)
   obtain⟨z,z1,z2,z3⟩:=h4 i hi j hj
   refine⟨z,?_,z2,ih i j z3⟩
   unfold World.cell? at z1 ⊢
   simp only at z1 ⊢
   rw[hw b h3];exact z1
def FrOk(n:Nat)(fr:Nat×Nat):Prop:=fr=(0,0)∨n≤fr.1
theorem FrOk.free{n:Nat}{fr:Nat×Nat}(h:FrOk n fr): ∀k,k<n→ ¬(fr.1≤k∧k<fr.2):=by
 intro k hk
 rcases h with h|h
 ·subst h;simp
 ·omega
def ObjR(ρ:Rho)(o:AObj)(s:Spot)(w:World):Prop:=match o with
 | .cells cs ex es=>s.void=false∧s.ex=ex∧s.es=es∧ ∃C t fr,w.heap[s.blk]? =some (.cells C t fr)∧C.size=s.room∧FrOk C.size fr∧s.base+cs.length≤s.room∧
   ∀(i:Nat) (x:Value),cs[i]? =some x→ ∃y,C[s.base+i]? =some y∧VR ρ x y
 | .old cs ex es=>s.void=false∧s.ex=ex∧s.es=es∧Frz ρ s.blk∧ ∃C t fr,w.heap[s.blk]? =some (.cells C t fr)∧s.base+cs.length≤C.size∧
   ∀(i:Nat) (x:Value),cs[i]? =some x→ ∃y,C[s.base+i]? =some y∧VR ρ x y
 | .row k es lo n elem=>s.es=es∧(s.void=true→n≤lo)∧
   (k= .mine→s.ex=false∧lo=0∧(s.void=false→ ∃C t fr,w.heap[s.blk]? =some (.cells C t fr)∧C.size=s.room∧FrOk C.size fr∧s.base+n*es≤s.room))∧
   (k= .still→s.void=false→Frz ρ s.blk)∧
   ∀(i:Nat),lo≤i→i<n→ ∀(j:Nat),j<es→ ∃y,w.cell? ⟨s.blk,s.base+i*s.es+j,none⟩=some y∧y.oneCell'=true∧TR w (Frz ρ) (elem i j) y
 | .map es clock=>s.void=false∧ ∃E,w.heap[s.blk]? =some (.map E clock)∧E.size=es.length∧ ∀(i:Nat) (e:MapEntry),es[i]? =some e→ ∃e',E[i]? =some e'∧e'.key=e.key∧e'.born=e.born∧Ev.ground 3 e.key=true∧VR ρ e.val e'.val
 | .omap kk vk es=>s.void=false∧(es.all fun p=>c6_ kk p.1&&i8_ vk p.2)=true∧ ∃E clock,w.heap[s.blk]? =some (.map E clock)∧E.toList.map (fun e=>(e.key,e.val))=es
 | .iter str pos=>s.void=false∧w.heap[s.blk]? =some (.stringIter str pos)
theorem ObjR.kept{ρ ρ':Rho}{o:AObj}{s:Spot}{w w':World}(h:ObjR ρ o s w)(hs:Sub ρ ρ')(hw:s.void=false→w'.heap[s.blk]? =w.heap[s.blk]?)(hF: ∀b,Frz ρ b→w'.heap[b]? =w.heap[b]?):ObjR ρ' o s w':=by
 cases o with
 |cells cs ex es=>
  obtain⟨h0,h1,h2,C,t,fr,h3,h4,h5,h6,h7⟩:=h
  refine⟨h0,h1,h2,C,t,fr,(hw h0).trans h3,h4,h5,h6,fun i x hx=> ?_⟩
  obtain⟨y,hy,hv⟩:=h7 i x hx
  exact⟨y,hy,hv.mono hs⟩
 |old cs ex es=>
  obtain⟨h0,h1,h2,hz,C,t,fr,h3,h6,h7⟩:=h
  refine⟨h0,h1,h2,hz.mono hs,C,t,fr,(hw h0).trans h3,h6,fun i x hx=> ?_⟩
  obtain⟨y,hy,hv⟩:=h7 i x hx
  exact⟨y,hy,hv.mono hs⟩
 |row own es lo n elem=>
  obtain⟨h1,h2,h3,hz,h4⟩:=h
  refine⟨h1,h2,fun ho=> ?_,fun ho hv=>(hz ho hv).mono hs,fun i k1 k2 j hj=> ?_⟩
  ·obtain⟨a1,a2,a3⟩:=h3 ho
   refine⟨a1,a2,fun hv=> ?_⟩
   obtain⟨C,t,fr,b1,b2⟩:=a3 hv
   exact⟨C,t,fr,(hw hv).trans b1,b2⟩
  ·obtain⟨y,hy,h1c,hv⟩:=h4 i k1 k2 j hj
   have hvoid:s.void=false:=by
    cases hq:s.void with
    |false=>rfl
    |true=>have:=h2 hq;omega
   refine⟨y,?_,h1c,hv.kept (fun b=>Frz.mono hs) hF⟩
   unfold World.cell? at hy ⊢
   simp only at hy ⊢
   rw[hw hvoid];exact hy
 |map es clock=>
  obtain⟨h0,E,h1,h2,h3⟩:=h
  refine⟨h0,E,(hw h0).trans h1,h2,fun i e he=> ?_⟩
  obtain⟨e',a1,a2,a3,a4,a5⟩:=h3 i e he
  exact⟨e',a1,a2,a3,a4,a5.mono hs⟩
 |omap kk vk es=>
  obtain⟨h0,h1,E,clock,h2,h3⟩:=h
  exact⟨h0,h1,E,clock,(hw h0).trans h2,h3⟩
 |iter str pos=>exact⟨h.1,(hw h.1).trans h.2⟩
def AObj.isOwn:AObj→Bool
 | .row .mine .. =>true
 | .row _ .. | .old .. =>false
 |_=>true
def Own(g:Mem)(ρ:Rho)(b:Nat):Prop:= ∃a o s,g a=some o∧o.isOwn=true∧ρ a=some s∧s.void=false∧s.blk=b
structure WR (ρ:Rho) (g:Mem) (w:World):Prop where
 blk: ∀a s,ρ a=some s→s.void=false→s.blk<w.heap.size
 obj: ∀a o,g a=some o→ ∃s,ρ a=some s∧ObjR ρ o s w
 inj: ∀a b oa ob sa sb,g a=some oa→g b=some ob→(oa.isOwn=true∨ob.isOwn=true)→ρ a=some sa→ρ b=some sb→sa.void=false→sb.void=false→sa.blk=sb.blk→a=b
 fz: ∀b,Frz ρ b→b<w.heap.size∧ ¬Own g ρ b
def b6_(ρ:Rho)(n n':Nat):Prop:= ∀a,n≤a→a<n'→ρ a=none
structure Mv (ρ ρ':Rho) (g g':Mem) (n n':Nat) (w w':World):Prop where
 nx:n≤n'
 ext:Sub ρ ρ'
 new: ∀a s,ρ' a=some s→ρ a=some s∨(n≤a∧a<n')
 size:w.heap.size≤w'.heap.size
 frm: ∀b,b<w.heap.size→ ¬Own g ρ b→w'.heap[b]? =w.heap[b]?
 own: ∀b,Own g' ρ' b→w.heap.size≤b∨Own g ρ b
 os:w'.os=w.os
 tape:w'.tape=w.tape
 output:w'.output=w.output
 wr:WR ρ' g' w'
 dom: ∀a o,g' a=some o→(∃o',g a=some o')∨(n≤a∧a<n')
 ro: ∀a o,g' a=some o→o.isOwn=false→g a=some o∨ ∀s,ρ' a=some s→s.void=false→Frz ρ' s.blk
 fzn: ∀b,Frz ρ' b→Frz ρ b∨w.heap.size≤b∨Own g ρ b
theorem G6_{ρ ρ':Rho}{g g':Mem}{w w':World}(h:WR ρ g w)(hsz:w.heap.size≤w'.heap.size)(hown: ∀b,Own g' ρ' b→w.heap.size≤b∨Own g ρ b)(hfz: ∀b,Frz ρ' b→Frz ρ b): ∀b,Frz ρ' b→b<w'.heap.size∧ ¬Own g' ρ' b:=fun b hb=>by
 obtain⟨h1,h2⟩:=h.fz b (hfz b hb)
 refine⟨by omega,fun ho=> ?_⟩
 rcases hown b ho with h3|h3
 ·omega
 ·exact h2 h3
theorem Mv.refl{ρ:Rho}{g:Mem}{w:World}(h:WR ρ g w)(n:Nat):Mv ρ ρ g g n n w w:=
 ⟨Nat.le_refl _,Sub.refl _,fun _ _ h=> .inl h,Nat.le_refl _,fun _ _ _=>rfl,fun _ h=> .inr h,rfl,rfl,rfl,h,fun a o h=> .inl ⟨o,h⟩,fun _ _ h _=> .inl h,fun _ h=> .inl h⟩
theorem Mv.trans{ρ ρ1 ρ2:Rho}{g g1 g2:Mem}{n n1 n2:Nat}{w w1 w2:World}(h:Mv ρ ρ1 g g1 n n1 w w1)(k:Mv ρ1 ρ2 g1 g2 n1 n2 w1 w2):Mv ρ ρ2 g g2 n n2 w w2 where
 nx:=Nat.le_trans h.nx k.nx
 ext:=h.ext.trans k.ext
 new a s e:=by
  have hn:=h.nx;have kn:=k.nx
  rcases k.new a s e with e1|e1
  ·rcases h.new a s e1 with e2|e2
   ·exact .inl e2
   ·exact .inr ⟨by omega,by omega⟩
  ·exact .inr ⟨by omega,by omega⟩
 size:=Nat.le_trans h.size k.size
 frm b hb ho:=by
  have h1: ¬Own g1 ρ1 b:=fun h2=>by
   rcases h.own b h2 with h3|h3
   ·omega
   ·exact ho h3
  rw[k.frm b (Nat.lt_of_lt_of_le hb h.size) h1,h.frm b hb ho]
 own b hb:=by
  rcases k.own b hb with h1|h1
  ·exact .inl (Nat.le_trans h.size h1)
  ·exact h.own b h1
 os:=k.os.trans h.os
 tape:=k.tape.trans h.tape
 output:=k.output.trans h.output
 wr:=k.wr
 dom a o e:=by
  have hn:=h.nx;have kn:=k.nx
  rcases k.dom a o e with⟨o',e1⟩|e1
  ·rcases h.dom a o' e1 with e2|e2
   ·exact .inl e2
   ·exact .inr ⟨by omega,by omega⟩
  ·exact .inr ⟨by omega,by omega⟩
 ro a o e ho:=by
  rcases k.ro a o e ho with e1|e1
  ·rcases h.ro a o e1 ho with e2|e2
   ·exact .inl e2
   ·obtain⟨s1,r1,_⟩:=h.wr.obj a o e1
    refine .inr fun s hs hv=> ?_
    have hq:=k.ext a s1 r1
    have hq2:s1=s:=Option.some.inj (hq.symm.trans hs)
    exact((e2 s1 r1 (by rw[hq2];exact hv)).mono k.ext:Frz ρ2 s1.blk)|>fun h=>by rw[hq2]at h;exact h
  ·exact .inr e1
 fzn b hb:=by
  rcases k.fzn b hb with h1|h1|h1
  ·exact h.fzn b h1
  ·exact .inr (.inl (Nat.le_trans h.size h1))
  ·exact .inr (h.own b h1)
theorem Mv.fresh{ρ ρ1:Rho}{g g1:Mem}{n n1 n2:Nat}{w w1:World}(h:Mv ρ ρ1 g g1 n n1 w w1)(hf:b6_ ρ n n2):b6_ ρ1 n1 n2:=fun a h1 h2=>by
 cases e:ρ1 a with
 |none=>rfl
 |some s=>
  have hn:=h.nx
  rcases h.new a s e with e1|e1
  ·rw[hf a (by omega) h2]at e1;cases e1
  ·omega
theorem b6_.left{ρ:Rho}{n n1 n2:Nat}(h:b6_ ρ n n2)(hn:n1≤n2):b6_ ρ n n1:=fun a h1 h2=>h a h1 (by omega)
theorem Mv.same{ρ:Rho}{g:Mem}{w w':World}(h:WR ρ g w)(n:Nat)(hh:w'.heap=w.heap)(h1:w'.os=w.os)(h2:w'.tape=w.tape)(h3:w'.output=w.output):Mv ρ ρ g g n n w w':=
 ⟨Nat.le_refl _,Sub.refl _,fun _ _ h=> .inl h,by rw[hh];exact Nat.le_refl _,fun _ _ _=>by rw[hh],fun _ h=> .inr h,h1,h2,h3,
  ⟨fun a s e=>by rw[hh];exact h.blk a s e,fun a o e=>by obtain⟨s,e1,e2⟩:=h.obj a o e;exact⟨s,e1,e2.kept (Sub.refl _) (fun _=>by rw[hh]) (fun _ _=>by rw[hh])⟩,h.inj,fun b hb=>by rw[hh];exact h.fz b hb⟩,fun a o h=> .inl ⟨o,h⟩,fun _ _ h _=> .inl h,fun _ h=> .inl h⟩
theorem Mv.alloc{ρ:Rho}{g:Mem}{w w':World}{n:Nat}(h:WR ρ g w)(hf:ρ n=none)(o:AObj)(how:o.isOwn=true)(s:Spot)(hz: ∀b,¬s.fz b)(hs:s.blk=w.heap.size)(hsz:w'.heap.size=w.heap.size+1)
  (hh: ∀b,b<w.heap.size→w'.heap[b]? =w.heap[b]?) (ho:ObjR (upd ρ n (some s)) o s w') (h1:w'.os=w.os) (h2:w'.tape=w.tape) (h3:w'.output=w.output):
  Mv ρ (upd ρ n (some s)) g (upd g n (some o)) n (n+1) w w':=by
 have hsub:Sub ρ (upd ρ n (some s)):=Sub.upd s hf
 have hown: ∀b,Own (upd g n (some o)) (upd ρ n (some s)) b→w.heap.size≤b∨Own g ρ b:=fun b hb=>by
  obtain⟨a,o',s',e1,e0,e2,e4,e3⟩:=hb
  by_cases ha:a=n
  ·subst ha;rw[a1_]at e2;cases e2;left;omega
  ·rw[a2_ _ _ ha]at e1 e2;exact .inr ⟨a,o',s',e1,e0,e2,e4,e3⟩
 refine⟨by omega,hsub,fun a t e=> ?_,by omega,fun b hb _=>hh b hb,hown,h1,h2,h3,⟨fun a t e hv=> ?_,fun a o' e=> ?_,fun a b oa ob sa sb ea eb eo ra rb va vb heq=> ?_,G6_ h (by omega) hown fun b hb=>hb.upd_no hz⟩,fun a o' e=> ?_,fun a o' e ho'=> ?_,fun b hb=> .inl (hb.upd_no hz)⟩
 ·by_cases ha:a=n
  ·exact .inr (by omega)
  ·rw[a2_ _ _ ha]at e;exact .inl e
 ·by_cases ha:a=n
  ·subst ha;rw[a1_]at e;cases e;omega
  ·rw[a2_ _ _ ha]at e;have:=h.blk a t e hv;omega
 ·by_cases ha:a=n
  ·subst ha;rw[a1_]at e;cases e;exact⟨s,a1_ _ _ _,ho⟩
  ·rw[a2_ _ _ ha]at e
   obtain⟨s',e1,e2⟩:=h.obj a o' e
   exact⟨s',by rw[a2_ _ _ ha];exact e1,e2.kept hsub (fun hv=>hh _ (h.blk a s' e1 hv)) (fun b hb=>hh b (h.fz b hb).1)⟩
 ·by_cases ha:a=n
  ·by_cases hb:b=n
   ·omega
   ·subst ha
    rw[a1_]at ra;cases ra
    rw[a2_ _ _ hb]at rb
    have:=h.blk b sb rb vb
    omega
  ·by_cases hb:b=n
   ·subst hb
    rw[a1_]at rb;cases rb
    rw[a2_ _ _ ha]at ra
    have:=h.blk a sa ra va
    omega
   ·rw[a2_ _ _ ha]at ra ea;rw[a2_ _ _ hb]at rb eb
    exact h.inj a b oa ob sa sb ea eb eo ra rb va vb heq
 ·by_cases ha:a=n
  ·exact .inr (by omega)
  ·rw[a2_ _ _ ha]at e;exact .inl ⟨o',e⟩
 ·by_cases ha:a=n
  ·subst ha;rw[a1_]at e;cases e;rw[how]at ho';cases ho'
  ·rw[a2_ _ _ ha]at e;exact .inl e
theorem Mv.void{ρ:Rho}{g:Mem}{w w':World}{n:Nat}(h:WR ρ g w)(hf:ρ n=none)(o:AObj)(s:Spot)(hz: ∀b,¬s.fz b)(hs:s.void=true∨(o.isOwn=false∧Frz ρ s.blk))(hh:w'.heap=w.heap)(ho:ObjR (upd ρ n (some s)) o s w')(h1:w'.os=w.os)(h2:w'.tape=w.tape)(h3:w'.output=w.output):
  Mv ρ (upd ρ n (some s)) g (upd g n (some o)) n (n+1) w w':=by
 have hsub:Sub ρ (upd ρ n (some s)):=Sub.upd s hf
 have hno: ∀{q:Bool},q=true→q=false→False:=by intro q a b;rw[a]at b;cases b
 have hown: ∀b,Own (upd g n (some o)) (upd ρ n (some s)) b→w.heap.size≤b∨Own g ρ b:=fun b hb=>by
  obtain⟨a,o',s',e1,e0,e2,e4,e3⟩:=hb
  by_cases ha:a=n
  ·subst ha;rw[a1_]at e2;cases e2;rw[a1_]at e1;cases e1
   rcases hs with hs|hs
   ·exact(hno hs e4).elim
   ·exact(hno e0 hs.1).elim
  ·rw[a2_ _ _ ha]at e1 e2;exact .inr ⟨a,o',s',e1,e0,e2,e4,e3⟩
 --beside what may be written it does not lie
 have hcross: ∀b ob sb,g b=some ob→ρ b=some sb→sb.void=false→s.void=false→(o.isOwn=true∨ob.isOwn=true)→sb.blk=s.blk→False:=fun b ob sb eb rb vb vs eo heq=>by
  rcases hs with hs|⟨hs1,hs2⟩
  ·exact hno hs vs
  ·rcases eo with eo|eo
   ·exact hno eo hs1
   ·exact(h.fz _ hs2).2 ⟨b,ob,sb,eb,eo,rb,vb,heq⟩
 refine⟨by omega,hsub,fun a t e=> ?_,by rw[hh];exact Nat.le_refl _,fun b hb _=>by rw[hh],hown,h1,h2,h3,⟨fun a t e hv=> ?_,fun a o' e=> ?_,fun a b oa ob sa sb ea eb eo ra rb va vb heq=> ?_,G6_ h (by rw[hh];exact Nat.le_refl _) hown fun b hb=>hb.upd_no hz⟩,fun a o' e=> ?_,fun a o' e ho'=> ?_,fun b hb=> .inl (hb.upd_no hz)⟩
 ·by_cases ha:a=n
  ·exact .inr (by omega)
  ·rw[a2_ _ _ ha]at e;exact .inl e
 ·by_cases ha:a=n
  ·subst ha;rw[a1_]at e;cases e
   rcases hs with hs|hs
   ·exact(hno hs hv).elim
   ·rw[hh];exact(h.fz _ hs.2).1
  ·rw[a2_ _ _ ha]at e;rw[hh];exact h.blk a t e hv
 ·by_cases ha:a=n
  ·subst ha;rw[a1_]at e;cases e;exact⟨s,a1_ _ _ _,ho⟩
  ·rw[a2_ _ _ ha]at e
   obtain⟨s',e1,e2⟩:=h.obj a o' e
   exact⟨s',by rw[a2_ _ _ ha];exact e1,e2.kept hsub (fun _=>by rw[hh]) (fun _ _=>by rw[hh])⟩
 ·by_cases ha:a=n
  ·by_cases hb:b=n
   ·omega
   ·subst ha;rw[a1_]at ra ea;cases ra;cases ea
    rw[a2_ _ _ hb]at rb eb
    exact(hcross b ob sb eb rb vb va eo heq.symm).elim
  ·by_cases hb:b=n
   ·subst hb;rw[a1_]at rb eb;cases rb;cases eb
    rw[a2_ _ _ ha]at ra ea
    exact(hcross a oa sa ea ra va vb eo.symm heq).elim
   ·rw[a2_ _ _ ha]at ra ea;rw[a2_ _ _ hb]at rb eb
    exact h.inj a b oa ob sa sb ea eb eo ra rb va vb heq
 ·by_cases ha:a=n
  ·exact .inr (by omega)
  ·rw[a2_ _ _ ha]at e;exact .inl ⟨o',e⟩
 ·by_cases ha:a=n
  ·subst ha;rw[a1_]at e;cases e
   refine .inr fun t ht hv=> ?_
   rw[a1_]at ht;cases ht
   rcases hs with hs|hs
   ·exact(hno hs hv).elim
   ·exact hs.2.mono hsub
  ·rw[a2_ _ _ ha]at e;exact .inl e
theorem Mv.drop{ρ:Rho}{g:Mem}{w:World}(n x:Nat)(h:WR ρ g w):Mv ρ ρ g (upd g x none) n n w w:=by
 have hg: ∀a o,upd g x none a=some o→g a=some o:=fun a o e=>by
  by_cases ha:a=x
  ·subst ha;rw[a1_]at e;cases e
  ·rw[a2_ _ _ ha]at e;exact e
 have hown: ∀b,Own (upd g x none) ρ b→w.heap.size≤b∨Own g ρ b:=fun b ⟨a,o,s,e1,e2⟩=> .inr ⟨a,o,s,hg a o e1,e2⟩
 exact⟨Nat.le_refl _,Sub.refl _,fun _ _ e=> .inl e,Nat.le_refl _,fun _ _ _=>rfl,hown,rfl,rfl,rfl,
  ⟨h.blk,fun a o e=>h.obj a o (hg a o e),fun a b oa ob sa sb ea eb=>h.inj a b oa ob sa sb (hg a oa ea) (hg b ob eb),G6_ h (Nat.le_refl _) hown fun _ hb=>hb⟩,fun a o e=> .inl ⟨o,hg a o e⟩,fun a o e _=> .inl (hg a o e),fun _ hb=> .inl hb⟩
theorem Mv.froze{ρ:Rho}{g:Mem}{w:World}{n x:Nat}{o o':AObj}{s t:Spot}(h:WR ρ g w)(hf:ρ n=none)(hx:g x=some o)(hxo:o.isOwn=true)(hs:ρ x=some s)(hxo':o'.isOwn=false)(ht:t.void=true)(htf: ∀b,t.fz b↔(s.void=false∧b=s.blk))
  (hor:ObjR (upd ρ n (some t)) o' s w):Mv ρ (upd ρ n (some t)) g (upd g x (some o')) n (n+1) w w:=by
 have hsub:Sub ρ (upd ρ n (some t)):=Sub.upd t hf
 have hno: ∀{q:Bool},q=true→q=false→False:=by intro q a b;rw[a]at b;cases b
 have hg: ∀a o,g a=some o→a≠n:=fun a o e he=>by
  subst he
  obtain⟨s',e1,_⟩:=h.obj a o e
  rw[hf]at e1;cases e1
 have hxn:x≠n:=hg x o hx
 have hsame: ∀a oa,upd g x (some o') a=some oa→(a=x∧oa=o')∨(a≠x∧g a=some oa):=fun a oa e=>by
  by_cases ha:a=x
  ·subst ha;rw[a1_]at e;cases e;exact .inl ⟨rfl,rfl⟩
  ·rw[a2_ _ _ ha]at e;exact .inr ⟨ha,e⟩
 have hρ: ∀a oa sa,upd g x (some o') a=some oa→upd ρ n (some t) a=some sa→ρ a=some sa:=fun a oa sa e r=>by
  have:a≠n:=by
   rcases hsame a oa e with⟨rfl,_⟩|⟨_,e2⟩
   ·exact hxn
   ·exact hg a oa e2
  rw[a2_ _ _ this]at r;exact r
 have hown: ∀b,Own (upd g x (some o')) (upd ρ n (some t)) b→Own g ρ b∧(s.void=false→b≠s.blk):=fun b ⟨a,oa,sa,e1,e0,e2,e3,e4⟩=>by
  rcases hsame a oa e1 with⟨rfl,rfl⟩|⟨ha,e5⟩
  ·exact(hno e0 hxo').elim
  ·have e2':=hρ a oa sa e1 e2
   exact⟨⟨a,oa,sa,e5,e0,e2',e3,e4⟩,fun hv he=>ha (h.inj a x oa o sa s e5 hx (.inl e0) e2' hs e3 hv (by omega))⟩
 refine⟨by omega,hsub,fun a r e=> ?_,Nat.le_refl _,fun _ _ _=>rfl,fun b hb=> .inr (hown b hb).1,rfl,rfl,rfl,⟨fun a r e hv=> ?_,fun a oa e=> ?_,fun a b oa ob sa sb ea eb eo ra rb va vb heq=> ?_,fun b hb=> ?_⟩,fun a oa e=> ?_,fun a oa e e0=> ?_,fun b hb=> ?_⟩
 ·by_cases ha:a=n
  ·exact .inr (by omega)
  ·rw[a2_ _ _ ha]at e;exact .inl e
 ·by_cases ha:a=n
  ·subst ha;rw[a1_]at e;cases e;exact(hno ht hv).elim
  ·rw[a2_ _ _ ha]at e;exact h.blk a r e hv
 ·rcases hsame a oa e with⟨rfl,rfl⟩|⟨ha,e2⟩
  ·exact⟨s,by rw[a2_ _ _ hxn];exact hs,hor⟩
  ·obtain⟨s',e1,e3⟩:=h.obj a oa e2
   exact⟨s',by rw[a2_ _ _ (hg a oa e2)];exact e1,e3.kept hsub (fun _=>rfl) (fun _ _=>rfl)⟩
 ·have ra':=hρ a oa sa ea ra
  have rb':=hρ b ob sb eb rb
  rcases hsame a oa ea with⟨rfl,rfl⟩|⟨ha,ea'⟩
  ·rcases hsame b ob eb with⟨rfl,rfl⟩|⟨hb,eb'⟩
   ·rfl
   ·exact h.inj a b o ob sa sb hx eb' (.inl hxo) ra' rb' va vb heq
  ·rcases hsame b ob eb with⟨rfl,rfl⟩|⟨hb,eb'⟩
   ·exact h.inj a b oa o sa sb ea' hx (.inr hxo) ra' rb' va vb heq
   ·exact h.inj a b oa ob sa sb ea' eb' eo ra' rb' va vb heq
 ·rcases hb.upd_inv with h1|h1
  ·exact⟨(h.fz b h1).1,fun h2=>(h.fz b h1).2 (hown b h2).1⟩
  ·obtain⟨h2,rfl⟩:=(htf b).1 h1
   exact⟨h.blk x s hs h2,fun h3=>(hown _ h3).2 h2 rfl⟩
 ·rcases hsame a oa e with⟨rfl,rfl⟩|⟨ha,e2⟩
  ·exact .inl ⟨o,hx⟩
  ·exact .inl ⟨oa,e2⟩
 ·rcases hsame a oa e with⟨rfl,rfl⟩|⟨ha,e2⟩
  ·refine .inr fun r hr hv=> ?_
   rw[a2_ _ _ hxn,hs]at hr;cases hr
   exact⟨n,t,a1_ _ _ _,(htf _).2 ⟨hv,rfl⟩⟩
  ·exact .inl e2
 ·rcases hb.upd_inv with h1|h1
  ·exact .inl h1
  ·obtain⟨h2,rfl⟩:=(htf b).1 h1
   exact .inr (.inr ⟨x,o,s,hx,hxo,hs,h2,rfl⟩)
theorem Mv.write{ρ:Rho}{g:Mem}{w w':World}(n:Nat){x:Nat}{o:AObj}{s:Spot}(h:WR ρ g w)(hx:g x=some o)(hxo:o.isOwn=true)(hs:ρ x=some s)(hsv:s.void=false)(o':AObj)(hxo':o'.isOwn=true)(ho:ObjR ρ o' s w')(hz:w'.heap.size=w.heap.size)
  (hh: ∀b,b≠s.blk→w'.heap[b]? =w.heap[b]?) (h1:w'.os=w.os) (h2:w'.tape=w.tape) (h3:w'.output=w.output):
  Mv ρ ρ g (upd g x (some o')) n n w w':=by
 have hown: ∀b,Own (upd g x (some o')) ρ b→w.heap.size≤b∨Own g ρ b:=fun b hb=>by
  right
  obtain⟨a,o1,s1,e1,e0,e2,e3⟩:=hb
  by_cases ha:a=x
  ·subst ha;exact⟨a,o,s1,hx,hxo,e2,e3⟩
  ·rw[a2_ _ _ ha]at e1;exact⟨a,o1,s1,e1,e0,e2,e3⟩
 have hFz: ∀b,Frz ρ b→w'.heap[b]? =w.heap[b]? :=fun b hb=>hh b fun e=>(h.fz b hb).2 ⟨x,o,s,hx,hxo,hs,hsv,e.symm⟩
 refine⟨Nat.le_refl _,Sub.refl _,fun a t e=> .inl e,by omega,fun b _ hb=>hh b fun e=>hb ⟨x,o,s,hx,hxo,hs,hsv,e.symm⟩,hown,h1,h2,h3,⟨fun a t e=> ?_,fun a o1 e=> ?_,fun a b oa ob sa sb ea eb eo ra rb va vb heq=> ?_,G6_ h (by omega) hown fun _ hb=>hb⟩,fun a o1 e=> ?_,fun a o1 e ho1=> ?_,fun _ hb=> .inl hb⟩
 ·rw[hz];exact h.blk a t e
 ·by_cases ha:a=x
  ·subst ha;rw[a1_]at e;cases e;exact⟨s,hs,ho⟩
  ·rw[a2_ _ _ ha]at e
   obtain⟨s1,e1,e2⟩:=h.obj a o1 e
   refine⟨s1,e1,e2.kept (Sub.refl _) (fun hv=>hh _ fun heq=>ha (h.inj a x o1 o s1 s e hx (.inr hxo) e1 hs hv hsv heq)) hFz⟩
 ·have key: ∀c oc,upd g x (some o') c=some oc→ ∃oc',g c=some oc'∧oc'.isOwn=oc.isOwn:=fun c oc e=>by
   by_cases hc:c=x
   ·subst hc;rw[a1_]at e;cases e;exact⟨o,hx,by rw[hxo,hxo']⟩
   ·rw[a2_ _ _ hc]at e;exact⟨oc,e,rfl⟩
  obtain⟨oa',ea',eaq⟩:=key a oa ea
  obtain⟨ob',eb',ebq⟩:=key b ob eb
  exact h.inj a b oa' ob' sa sb ea' eb' (by rw[eaq,ebq];exact eo) ra rb va vb heq
 ·by_cases ha:a=x
  ·subst ha;exact .inl ⟨o,hx⟩
  ·rw[a2_ _ _ ha]at e;exact .inl ⟨o1,e⟩
 ·by_cases ha:a=x
  ·subst ha;rw[a1_]at e;cases e;rw[hxo']at ho1;cases ho1
  ·rw[a2_ _ _ ha]at e;exact .inl e
theorem Mv.turn{ρ:Rho}{g:Mem}{w w':World}{n x:Nat}{o:AObj}{sx:Spot}(h:WR ρ g w)(hf:ρ n=none)(hx:g x=some o)(hxo:o.isOwn=true)(hsx:ρ x=some sx)(hsv:sx.void=false)(o':AObj)(hxo':o'.isOwn=true)(s:Spot)(hz: ∀b,¬s.fz b)
  (hs:(s.blk=w.heap.size∧w'.heap.size=w.heap.size+1∧ ∀b,b<w.heap.size→w'.heap[b]? =w.heap[b]?)∨(s.blk=sx.blk∧w'.heap.size=w.heap.size∧ ∀b,b≠sx.blk→w'.heap[b]? =w.heap[b]?))
  (ho:ObjR (upd ρ n (some s)) o' s w') (h1:w'.os=w.os) (h2:w'.tape=w.tape) (h3:w'.output=w.output):
  Mv ρ (upd ρ n (some s)) g (upd (upd g x none) n (some o')) n (n+1) w w':=by
 have hsub:Sub ρ (upd ρ n (some s)):=Sub.upd s hf
 have hxn:x≠n:=fun e=>by subst e;rw[hf]at hsx;cases hsx
 have hbx:=h.blk x sx hsx hsv
 have hgn: ∀a o1,upd (upd g x none) n (some o') a=some o1→a≠n→g a=some o1∧a≠x:=fun a o1 e ha=>by
  rw[a2_ _ _ ha]at e
  by_cases hax:a=x
  ·subst hax;rw[a1_]at e;cases e
  ·rw[a2_ _ _ hax]at e;exact⟨e,hax⟩
 have hsz:w.heap.size≤w'.heap.size:=by rcases hs with⟨_,h4,_⟩|⟨_,h4,_⟩<;>omega
 have hfrm: ∀b,b<w.heap.size→ ¬Own g ρ b→w'.heap[b]? =w.heap[b]? :=fun b hb hno=>by
  rcases hs with⟨_,_,h4⟩|⟨_,_,h4⟩
  ·exact h4 b hb
  ·exact h4 b fun e=>hno ⟨x,o,sx,hx,hxo,hsx,hsv,e.symm⟩
 have hown: ∀b,Own (upd (upd g x none) n (some o')) (upd ρ n (some s)) b→w.heap.size≤b∨Own g ρ b:=fun b hb=>by
  obtain⟨a,o1,s1,e1,e0,e2,e4,e3⟩:=hb
  by_cases ha:a=n
  ·subst ha;rw[a1_]at e2;cases e2
   rcases hs with⟨h4,_,_⟩|⟨h4,_,_⟩
   ·left;omega
   ·exact .inr ⟨x,o,sx,hx,hxo,hsx,hsv,by omega⟩
  ·obtain⟨e5,_⟩:=hgn a o1 e1 ha
   rw[a2_ _ _ ha]at e2;exact .inr ⟨a,o1,s1,e5,e0,e2,e4,e3⟩
 refine⟨by omega,hsub,fun a t e=> ?_,hsz,hfrm,hown,h1,h2,h3,⟨fun a t e hv=> ?_,fun a o1 e=> ?_,fun a b oa ob sa sb ea eb eo ra rb va vb heq=> ?_,G6_ h hsz hown fun b hb=>hb.upd_no hz⟩,fun a o1 e=> ?_,fun a o1 e ho1=> ?_,fun b hb=> .inl (hb.upd_no hz)⟩
 ·by_cases ha:a=n
  ·exact .inr (by omega)
  ·rw[a2_ _ _ ha]at e;exact .inl e
 ·by_cases ha:a=n
  ·subst ha;rw[a1_]at e;cases e
   rcases hs with⟨h4,h5,_⟩|⟨h4,h5,_⟩<;>omega
  ·rw[a2_ _ _ ha]at e;have:=h.blk a t e hv
   rcases hs with⟨_,h5,_⟩|⟨_,h5,_⟩<;>omega
 ·by_cases ha:a=n
  ·subst ha;rw[a1_]at e;cases e;exact⟨s,a1_ _ _ _,ho⟩
  ·obtain⟨e4,hax⟩:=hgn a o1 e ha
   obtain⟨s1,e1,e2⟩:=h.obj a o1 e4
   refine⟨s1,by rw[a2_ _ _ ha];exact e1,e2.kept hsub (fun hv=> ?_) (fun b hb=>hfrm b (h.fz b hb).1 (h.fz b hb).2)⟩
   rcases hs with⟨_,_,h4⟩|⟨_,_,h4⟩
   ·exact h4 _ (h.blk a s1 e1 hv)
   ·exact h4 _ fun heq=>hax (h.inj a x o1 o s1 sx e4 hx (.inr hxo) e1 hsx hv hsv heq)
 ·have hne: ∀c oc sc,upd (upd g x none) n (some o') c=some oc→c≠n→upd ρ n (some s) c=some sc→sc.void=false→sc.blk≠s.blk:=fun c oc sc ec hc rc vc heq=>by
   obtain⟨e4,hcx⟩:=hgn c oc ec hc
   rw[a2_ _ _ hc]at rc
   rcases hs with⟨h4,_,_⟩|⟨h4,_,_⟩
   ·have:=h.blk c sc rc vc;omega
   ·exact hcx (h.inj c x oc o sc sx e4 hx (.inr hxo) rc hsx vc hsv (by omega))
  by_cases ha:a=n
  ·by_cases hb:b=n
   ·omega
   ·subst ha
    have ra':=ra
    rw[a1_]at ra';cases ra'
    exact absurd heq.symm (hne b ob sb eb hb rb vb)
  ·by_cases hb:b=n
   ·subst hb
    have rb':=rb
    rw[a1_]at rb';cases rb'
    exact absurd heq (hne a oa sa ea ha ra va)
   ·obtain⟨e4,_⟩:=hgn a oa ea ha
    obtain⟨e5,_⟩:=hgn b ob eb hb
    rw[a2_ _ _ ha]at ra;rw[a2_ _ _ hb]at rb
    exact h.inj a b oa ob sa sb e4 e5 eo ra rb va vb heq
 ·by_cases ha:a=n
  ·exact .inr (by omega)
  ·exact .inl ⟨o1,(hgn a o1 e ha).1⟩
 ·by_cases ha:a=n
  ·subst ha;rw[a1_]at e;cases e;rw[hxo']at ho1;cases ho1
  ·exact .inl (hgn a o1 e ha).1
end Go.Proofs.YtachglcffimmeaaGreat.Ev
