import Derived.WalkKit
import Derived.Lib.IndexMore
set_option linter.unusedVariables false
set_option linter.unusedSimpArgs false
namespace Go.Proofs.YtkklogikakcanaaGreatDoor
def wordsT:List UInt8:=[32,114,101,99,111,114,100,32,115,104,97,114,101,100,32,102,117,110,99,32,116,104,114,101,97,100,32,118,97,114,32,105,102,32,101,108,115,101,32,119,104,105,108,101,32,97,116,111,109,105,99,32,112,114,105,110,116,32,114,101,116,117,114,110,32,110,101,119,32,110,105,108,32,105,110,116,32]
def wordList:List (List UInt8):=[[114,101,99,111,114,100],[115,104,97,114,101,100],[102,117,110,99],[116,104,114,101,97,100],[118,97,114],[105,102],[101,108,115,101],[119,104,105,108,101],[97,116,111,109,105,99],[112,114,105,110,116],[114,101,116,117,114,110],[110,101,119],[110,105,108],[105,110,116]]
def wordB (l:List UInt8):Bool:=wordList.contains l
def partB (c:UInt8):Bool:=(decide (97≤c.toNat)&&decide (c.toNat≤122))||(decide (48≤c.toNat)&&decide (c.toNat≤57))||decide (c.toNat=95)
def nameB (l:List UInt8):Bool:=
 match l with
 |[]=>false
 |c::_=>decide (l.length≤16)&&decide (97≤c.toNat)&&decide (c.toNat≤122)&& !wordB l&&l.all partB
theorem words_at:(List.range 80).all (fun i=>match wordsT.drop i with
 |[]=>true
 |c::r=>(c != 32)||(let t:=r.takeWhile (· != 32);t.isEmpty||wordList.contains t))=true:=by decide+kernel
theorem takeWhile_before (l r:List UInt8) (h:32∉l):(l++32::r).takeWhile (· != 32)=l:=by
 induction l with
 |nil=>simp
 |cons c l ih=>
  have hc:c≠32:=fun e=>h (by simp[e])
  have:=ih (fun e=>h (by simp[e]))
  rw[List.cons_append,List.takeWhile_cons_of_pos (by simpa using hc),this]
theorem words_contains (l:List UInt8) (h0:l≠[]) (h1:32∉l):Lib.contains wordsT (32::l++[32])=wordB l:=by
 cases hb:wordB l
 ·rw[Lib.contains,decide_eq_false_iff_not]
  intro h
  rcases Lib.index_spec wordsT (32::l++[32]) with ⟨e,_⟩|⟨i,e,hi,ho,_⟩
  ·omega
  ·have hp:(32::l++[32]).isPrefixOf (wordsT.drop i)=true:=ho
   obtain⟨t,ht⟩:=List.isPrefixOf_iff_prefix.1 hp
   have hl:i<80:=by
    have h5:=congrArg List.length ht
    have h6:wordsT.length=77:=rfl
    simp at h5
    omega
   have h7:=List.all_eq_true.1 words_at i (by simpa using hl)
   rw[←ht]at h7
   simp only[List.cons_append,List.append_assoc,List.nil_append]at h7
   rw[takeWhile_before l t h1]at h7
   simp only[bne_self_eq_false,Bool.false_or]at h7
   rw[show wordList.contains l=wordB l from rfl,hb,Bool.or_false,List.isEmpty_iff]at h7
   exact h0 h7
 ·have hm:l∈wordList:=by simpa [wordB] using hb
  have key:wordList.all (fun x=>Lib.contains wordsT (32::x++[32]))=true:=by decide+kernel
  exact List.all_eq_true.1 key l hm
theorem word_nospace {l:List UInt8} (h:wordB l=true):l≠[]∧32∉l:=by
 have hm:l∈wordList:=by simpa [wordB] using h
 have key:wordList.all (fun x=> !x.isEmpty&& !x.contains 32)=true:=by decide+kernel
 have:=List.all_eq_true.1 key l hm
 simpa using this
theorem indexByte_mem (l:List UInt8) (c:UInt8):decide (0≤Lib.indexByte l c)=l.contains c:=by
 induction l with
 |nil=>rfl
 |cons b l ih=>
  have hge:=Lib.indexByte_ge l c
  unfold Lib.indexByte
  by_cases hb:b=c
  ·subst hb;simp
  ·rw[if_neg (by simpa using hb),List.contains_cons,show (c==b)=false by simpa using fun e=>hb e.symm,Bool.false_or,←ih]
   by_cases h1:Lib.indexByte l c= -1
   ·rw[if_pos (by simpa using h1),h1]
   ·rw[if_neg (by simpa using h1)]
    simp only[decide_eq_decide];omega
end Go.Proofs.YtkklogikakcanaaGreatDoor
