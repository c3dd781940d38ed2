/- A part of a proof. -/
import Derived.Lib.Bytealg
namespace Go.Proofs.YtppfkokfnoeopaaGreatDoor
open Go.Lib
def cutL(c:UInt8):List UInt8→List (List UInt8)
 | []=>[[]]
 | b::r=>if b==c then[]::cutL c r else match cutL c r with
  | []=>[[b]]
  | w::ws=>(b::w)::ws
theorem cutL_ne(c:UInt8)(l:List UInt8):cutL c l≠[]:=by
 cases l with
 | nil=>simp[cutL]
 | cons b r=>
  rw[cutL];split
  ·simp
  ·split<;>simp
theorem cutL_length(c:UInt8):∀l:List UInt8,(cutL c l).length≤l.length+1
 | []=>by simp[cutL]
 | b::r=>by
  have ih:=cutL_length c r;rw[cutL];split
  ·simp;omega
  ·split
   ·simp
   ·rename_i w ws h;rw[h] at ih;simp at ih ⊢;omega
theorem cutL_miss(c:UInt8):∀l:List UInt8,indexByte l c=-1→cutL c l=[l]
 | [],_=>rfl
 | b::r,h=>by
  rw[indexByte] at h
  split at h
  ·exact absurd h (by decide)
  ·rename_i hb
   split at h
   ·rename_i h1
    rw[cutL,if_neg hb,cutL_miss c r (by simpa using h1)]
   ·have:=indexByte_ge r c;rename_i h1;simp at h1;omega
theorem cutL_hit(c:UInt8):∀(l:List UInt8) (k:Nat),indexByte l c=k→k<l.length∧cutL c l=l.take k::cutL c (l.drop (k+1))
 | [],k,h=>by exfalso;rw[indexByte] at h;omega
 | b::r,k,h=>by
  rw[indexByte] at h
  split at h
  ·rename_i hb
   obtain rfl:k=0:=by omega
   exact⟨by simp,by rw[cutL,if_pos hb];rfl⟩
  ·rename_i hb
   split at h
   ·omega
   ·have h1:=indexByte_ge r c
    rename_i h2;simp at h2;obtain⟨m,rfl⟩:∃m,k=m+1:=⟨k-1,by omega⟩
    obtain⟨h3,h4⟩:=cutL_hit c r m (by omega);refine⟨by rw[List.length_cons];omega,?_⟩;rw[cutL,if_neg hb,h4];rfl
theorem cutL_free(c:UInt8):∀(l:List UInt8),∀w∈cutL c l,c∉w
 | [],w,h=>by simp[cutL] at h;subst h;simp
 | b::r,w,h=>by
  have ih:=cutL_free c r;rw[cutL] at h
  split at h
  ·rcases List.mem_cons.1 h with rfl|h
   ·simp
   ·exact ih w h
  ·rename_i hb
   have hbc:c≠b:=by rintro rfl;simp at hb
   split at h
   ·simp at h;subst h;simpa using hbc
   ·rename_i v vs e
    rw[e] at ih
    rcases List.mem_cons.1 h with rfl|h
    ·have:=ih v (by simp)
     simp only[List.mem_cons,not_or];exact⟨hbc,this⟩
    ·exact ih w (List.mem_cons_of_mem _ h)
theorem cutL_word(c:UInt8):∀(w:List UInt8),c∉w→cutL c w=[w]
 | [],_=>rfl
 | b::r,h=>by
  simp only[List.mem_cons,not_or] at h;rw[cutL,if_neg (by simp;exact fun e=>h.1 e.symm),cutL_word c r h.2]
theorem cutL_cons(c:UInt8)(l:List UInt8):∀(w:List UInt8),c∉w→cutL c (w++c::l)=w::cutL c l
 | [],_=>by simp[cutL]
 | b::r,h=>by
  simp only[List.mem_cons,not_or] at h;rw[List.cons_append,cutL,if_neg (by simp;exact fun e=>h.1 e.symm),cutL_cons c l r h.2]
theorem cutL_piece(c:UInt8):∀(l:List UInt8),∀w∈cutL c l,w.length≤l.length
 | [],w,h=>by simp[cutL] at h;subst h;simp
 | b::r,w,h=>by
  have ih:=cutL_piece c r;rw[cutL] at h
  split at h
  ·rcases List.mem_cons.1 h with rfl|h
   ·simp
   ·have:=ih w h;rw[List.length_cons];omega
  ·split at h
   ·simp at h;subst h;simp
   ·rename_i v vs e
    rw[e] at ih
    rcases List.mem_cons.1 h with rfl|h
    ·have:=ih v (by simp);simp only[List.length_cons];omega
    ·have:=ih w (List.mem_cons_of_mem _ h);rw[List.length_cons];omega
def joinL(c:UInt8):List (List UInt8)→List UInt8
 | []=>[]
 | [w]=>w
 | w::ws=>w++c::joinL c ws
theorem joinL_cons(c:UInt8)(w:List UInt8){ws:List (List UInt8)}(h:ws≠[]):joinL c (w::ws)=w++c::joinL c ws:=by
 cases ws with
 | nil=>exact absurd rfl h
 | cons a b=>rfl
theorem joinL_cutL(c:UInt8):∀l:List UInt8,joinL c (cutL c l)=l
 | []=>rfl
 | b::r=>by
  have ih:=joinL_cutL c r;rw[cutL]
  split
  ·rename_i hb
   rw[joinL_cons c _ (cutL_ne c r),ih,List.nil_append,eq_of_beq hb]
  ·split
   ·rename_i h;exact absurd h (cutL_ne c r)
   ·rename_i v vs h
    rw[h] at ih
    cases vs with
    | nil=>simp only[joinL] at ih ⊢;rw[ih]
    | cons a as=>simp only[joinL] at ih ⊢;rw[List.cons_append,ih]
theorem cutL_joinL(c:UInt8):∀ws:List (List UInt8),ws≠[]→(∀w∈ws,c∉w)→cutL c (joinL c ws)=ws
 | [],h,_=>absurd rfl h
 | [w],_,h=>cutL_word c w (h w (by simp))
 | w::v::vs,_,h=>by
  rw[joinL_cons c w (by simp),cutL_cons c _ w (h w (by simp)),cutL_joinL c (v::vs) (by simp) (fun u hu=>h u (List.mem_cons_of_mem _ hu))]
end Go.Proofs.YtppfkokfnoeopaaGreatDoor
