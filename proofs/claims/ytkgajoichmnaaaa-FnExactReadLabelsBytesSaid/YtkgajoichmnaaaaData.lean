/- The program's data, and how each reads. No condition. -/
import Derived.Test.YtkgajoichmnaaaaKit
namespace Go.Proofs.Ytkgajoichmnaaaa
open Dat (rd)
open Go.ChangeShapes Go.WideShapes Go.ChangeAt Go.RowKit
set_option linter.unusedVariables false
set_option linter.unusedSimpArgs false

theorem rd_Label {w : World} {x : Label} {cs : List Value} {F : List Nat} (h : rd w x cs F) : cs = [.string x.key, .string x.value] ∧ F = [] ∧ x.key.size ≤ maxLen ∧ x.value.size ≤ maxLen := by
  obtain ⟨_, _, _, _, rfl, rfl, ⟨rfl, rfl, hkey⟩, ⟨rfl, rfl, hvalue⟩⟩ := h
  exact ⟨rfl, by simp, hkey, hvalue⟩
theorem rd_Label_mk (w : World) (x : Label) (hkey : x.key.size ≤ maxLen) (hvalue : x.value.size ≤ maxLen) : rd w x [.string x.key, .string x.value] [] := ⟨_, _, _, _, rfl, rfl, ⟨rfl, rfl, hkey⟩, ⟨rfl, rfl, hvalue⟩⟩
structure Need where
  key : ByteArray
  op : Int
  values : List ByteArray
instance : Dat Need := Dat.iso fun x => (x.key, x.op, x.values)
theorem rd_Need {w : World} {x : Need} {cs : List Value} {F : List Nat} (h : rd w x cs F) : ∃ (Avalues : Option Addr) (cvalues : Nat) (Fvalues : List Nat), cs = [.string x.key, .int .i64 x.op, .slice Avalues x.values.length cvalues] ∧ F = Fvalues ∧ x.key.size ≤ maxLen ∧ I64 x.op ∧ Sl w x.values Avalues cvalues Fvalues := by
  obtain ⟨_, _, _, _, rfl, rfl, ⟨rfl, rfl, hkey⟩, _, _, _, _, rfl, rfl, ⟨rfl, rfl, hop⟩, hvalues⟩ := h
  obtain ⟨Avalues, cvalues, rfl, hvalues⟩ := rd_list hvalues
  exact ⟨Avalues, cvalues, _, rfl, by simp, hkey, hop, hvalues⟩
structure Taint where
  key : ByteArray
  value : ByteArray
  effect : Int
instance : Dat Taint := Dat.iso fun x => (x.key, x.value, x.effect)
theorem rd_Taint {w : World} {x : Taint} {cs : List Value} {F : List Nat} (h : rd w x cs F) : cs = [.string x.key, .string x.value, .int .i64 x.effect] ∧ F = [] ∧ x.key.size ≤ maxLen ∧ x.value.size ≤ maxLen ∧ I64 x.effect := by
  obtain ⟨_, _, _, _, rfl, rfl, ⟨rfl, rfl, hkey⟩, _, _, _, _, rfl, rfl, ⟨rfl, rfl, hvalue⟩, ⟨rfl, rfl, heffect⟩⟩ := h
  exact ⟨rfl, by simp, hkey, hvalue, heffect⟩
theorem rd_Taint_mk (w : World) (x : Taint) (hkey : x.key.size ≤ maxLen) (hvalue : x.value.size ≤ maxLen) (heffect : I64 x.effect) : rd w x [.string x.key, .string x.value, .int .i64 x.effect] [] := ⟨_, _, _, _, rfl, rfl, ⟨rfl, rfl, hkey⟩, _, _, _, _, rfl, rfl, ⟨rfl, rfl, hvalue⟩, ⟨rfl, rfl, heffect⟩⟩
structure Tolerance where
  key : ByteArray
  equal : Bool
  value : ByteArray
  effect : Int
instance : Dat Tolerance := Dat.iso fun x => (x.key, x.equal, x.value, x.effect)
theorem rd_Tolerance {w : World} {x : Tolerance} {cs : List Value} {F : List Nat} (h : rd w x cs F) : cs = [.string x.key, .bool x.equal, .string x.value, .int .i64 x.effect] ∧ F = [] ∧ x.key.size ≤ maxLen ∧ x.value.size ≤ maxLen ∧ I64 x.effect := by
  obtain ⟨_, _, _, _, rfl, rfl, ⟨rfl, rfl, hkey⟩, _, _, _, _, rfl, rfl, ⟨rfl, rfl⟩, _, _, _, _, rfl, rfl, ⟨rfl, rfl, hvalue⟩, ⟨rfl, rfl, heffect⟩⟩ := h
  exact ⟨rfl, by simp, hkey, hvalue, heffect⟩
theorem rd_Tolerance_mk (w : World) (x : Tolerance) (hkey : x.key.size ≤ maxLen) (hvalue : x.value.size ≤ maxLen) (heffect : I64 x.effect) : rd w x [.string x.key, .bool x.equal, .string x.value, .int .i64 x.effect] [] := ⟨_, _, _, _, rfl, rfl, ⟨rfl, rfl, hkey⟩, _, _, _, _, rfl, rfl, ⟨rfl, rfl⟩, _, _, _, _, rfl, rfl, ⟨rfl, rfl, hvalue⟩, ⟨rfl, rfl, heffect⟩⟩
structure Pod where
  name : ByteArray
  labels : List Label
  cpu : Int
  mem : Int
  rank : Int
  needs : List Need
  tolerances : List Tolerance
instance : Dat Pod := Dat.iso fun x => (x.name, x.labels, x.cpu, x.mem, x.rank, x.needs, x.tolerances)
theorem rd_Pod {w : World} {x : Pod} {cs : List Value} {F : List Nat} (h : rd w x cs F) : ∃ (Alabels : Option Addr) (clabels : Nat) (Flabels : List Nat) (Aneeds : Option Addr) (cneeds : Nat) (Fneeds : List Nat) (Atolerances : Option Addr) (ctolerances : Nat) (Ftolerances : List Nat), cs = [.string x.name, .slice Alabels x.labels.length clabels, .int .i64 x.cpu, .int .i64 x.mem, .int .i64 x.rank, .slice Aneeds x.needs.length cneeds, .slice Atolerances x.tolerances.length ctolerances] ∧ F = Flabels ++ (Fneeds ++ (Ftolerances)) ∧ x.name.size ≤ maxLen ∧ Sl w x.labels Alabels clabels Flabels ∧ I64 x.cpu ∧ I64 x.mem ∧ I64 x.rank ∧ Sl w x.needs Aneeds cneeds Fneeds ∧ Sl w x.tolerances Atolerances ctolerances Ftolerances := by
  obtain ⟨_, _, _, _, rfl, rfl, ⟨rfl, rfl, hname⟩, _, _, _, _, rfl, rfl, hlabels, _, _, _, _, rfl, rfl, ⟨rfl, rfl, hcpu⟩, _, _, _, _, rfl, rfl, ⟨rfl, rfl, hmem⟩, _, _, _, _, rfl, rfl, ⟨rfl, rfl, hrank⟩, _, _, _, _, rfl, rfl, hneeds, htolerances⟩ := h
  obtain ⟨Alabels, clabels, rfl, hlabels⟩ := rd_list hlabels
  obtain ⟨Aneeds, cneeds, rfl, hneeds⟩ := rd_list hneeds
  obtain ⟨Atolerances, ctolerances, rfl, htolerances⟩ := rd_list htolerances
  exact ⟨Alabels, clabels, _, Aneeds, cneeds, _, Atolerances, ctolerances, _, rfl, by simp, hname, hlabels, hcpu, hmem, hrank, hneeds, htolerances⟩
structure Host where
  name : ByteArray
  labels : List Label
  cpu : Int
  mem : Int
  slots : Int
  taints : List Taint
instance : Dat Host := Dat.iso fun x => (x.name, x.labels, x.cpu, x.mem, x.slots, x.taints)
theorem rd_Host {w : World} {x : Host} {cs : List Value} {F : List Nat} (h : rd w x cs F) : ∃ (Alabels : Option Addr) (clabels : Nat) (Flabels : List Nat) (Ataints : Option Addr) (ctaints : Nat) (Ftaints : List Nat), cs = [.string x.name, .slice Alabels x.labels.length clabels, .int .i64 x.cpu, .int .i64 x.mem, .int .i64 x.slots, .slice Ataints x.taints.length ctaints] ∧ F = Flabels ++ (Ftaints) ∧ x.name.size ≤ maxLen ∧ Sl w x.labels Alabels clabels Flabels ∧ I64 x.cpu ∧ I64 x.mem ∧ I64 x.slots ∧ Sl w x.taints Ataints ctaints Ftaints := by
  obtain ⟨_, _, _, _, rfl, rfl, ⟨rfl, rfl, hname⟩, _, _, _, _, rfl, rfl, hlabels, _, _, _, _, rfl, rfl, ⟨rfl, rfl, hcpu⟩, _, _, _, _, rfl, rfl, ⟨rfl, rfl, hmem⟩, _, _, _, _, rfl, rfl, ⟨rfl, rfl, hslots⟩, htaints⟩ := h
  obtain ⟨Alabels, clabels, rfl, hlabels⟩ := rd_list hlabels
  obtain ⟨Ataints, ctaints, rfl, htaints⟩ := rd_list htaints
  exact ⟨Alabels, clabels, _, Ataints, ctaints, _, rfl, by simp, hname, hlabels, hcpu, hmem, hslots, htaints⟩
structure Weights where
  pack : Int
  spread : Int
  soft : Int
instance : Dat Weights := Dat.iso fun x => (x.pack, x.spread, x.soft)
theorem rd_Weights {w : World} {x : Weights} {cs : List Value} {F : List Nat} (h : rd w x cs F) : cs = [.int .i64 x.pack, .int .i64 x.spread, .int .i64 x.soft] ∧ F = [] ∧ I64 x.pack ∧ I64 x.spread ∧ I64 x.soft := by
  obtain ⟨_, _, _, _, rfl, rfl, ⟨rfl, rfl, hpack⟩, _, _, _, _, rfl, rfl, ⟨rfl, rfl, hspread⟩, ⟨rfl, rfl, hsoft⟩⟩ := h
  exact ⟨rfl, by simp, hpack, hspread, hsoft⟩
theorem rd_Weights_mk (w : World) (x : Weights) (hpack : I64 x.pack) (hspread : I64 x.spread) (hsoft : I64 x.soft) : rd w x [.int .i64 x.pack, .int .i64 x.spread, .int .i64 x.soft] [] := ⟨_, _, _, _, rfl, rfl, ⟨rfl, rfl, hpack⟩, _, _, _, _, rfl, rfl, ⟨rfl, rfl, hspread⟩, ⟨rfl, rfl, hsoft⟩⟩
structure Placed where
  pod : Pod
  on : ByteArray
  seq : Int
instance : Dat Placed := Dat.iso fun x => (x.pod, x.on, x.seq)
theorem rd_Placed {w : World} {x : Placed} {cs : List Value} {F : List Nat} (h : rd w x cs F) : ∃ (Apodlabels : Option Addr) (cpodlabels : Nat) (Fpodlabels : List Nat) (Apodneeds : Option Addr) (cpodneeds : Nat) (Fpodneeds : List Nat) (Apodtolerances : Option Addr) (cpodtolerances : Nat) (Fpodtolerances : List Nat), cs = [.string x.pod.name, .slice Apodlabels x.pod.labels.length cpodlabels, .int .i64 x.pod.cpu, .int .i64 x.pod.mem, .int .i64 x.pod.rank, .slice Apodneeds x.pod.needs.length cpodneeds, .slice Apodtolerances x.pod.tolerances.length cpodtolerances, .string x.on, .int .i64 x.seq] ∧ F = Fpodlabels ++ (Fpodneeds ++ (Fpodtolerances)) ∧ x.pod.name.size ≤ maxLen ∧ Sl w x.pod.labels Apodlabels cpodlabels Fpodlabels ∧ I64 x.pod.cpu ∧ I64 x.pod.mem ∧ I64 x.pod.rank ∧ Sl w x.pod.needs Apodneeds cpodneeds Fpodneeds ∧ Sl w x.pod.tolerances Apodtolerances cpodtolerances Fpodtolerances ∧ x.on.size ≤ maxLen ∧ I64 x.seq := by
  obtain ⟨_, _, _, _, rfl, rfl, hpod, _, _, _, _, rfl, rfl, ⟨rfl, rfl, hon⟩, ⟨rfl, rfl, hseq⟩⟩ := h
  obtain ⟨Apodlabels, cpodlabels, Fpodlabels, Apodneeds, cpodneeds, Fpodneeds, Apodtolerances, cpodtolerances, Fpodtolerances, rfl, rfl, hpodname, hpodlabels, hpodcpu, hpodmem, hpodrank, hpodneeds, hpodtolerances⟩ := rd_Pod hpod
  exact ⟨Apodlabels, cpodlabels, _, Apodneeds, cpodneeds, _, Apodtolerances, cpodtolerances, _, rfl, by simp, hpodname, hpodlabels, hpodcpu, hpodmem, hpodrank, hpodneeds, hpodtolerances, hon, hseq⟩
structure Cluster where
  hosts : List Host
  pods : List Placed
  next : Int
  weights : Weights
instance : Dat Cluster := Dat.iso fun x => (x.hosts, x.pods, x.next, x.weights)
theorem rd_Cluster {w : World} {x : Cluster} {cs : List Value} {F : List Nat} (h : rd w x cs F) : ∃ (Ahosts : Option Addr) (chosts : Nat) (Fhosts : List Nat) (Apods : Option Addr) (cpods : Nat) (Fpods : List Nat), cs = [.slice Ahosts x.hosts.length chosts, .slice Apods x.pods.length cpods, .int .i64 x.next, .int .i64 x.weights.pack, .int .i64 x.weights.spread, .int .i64 x.weights.soft] ∧ F = Fhosts ++ (Fpods) ∧ Sl w x.hosts Ahosts chosts Fhosts ∧ Sl w x.pods Apods cpods Fpods ∧ I64 x.next ∧ I64 x.weights.pack ∧ I64 x.weights.spread ∧ I64 x.weights.soft := by
  obtain ⟨_, _, _, _, rfl, rfl, hhosts, _, _, _, _, rfl, rfl, hpods, _, _, _, _, rfl, rfl, ⟨rfl, rfl, hnext⟩, hweights⟩ := h
  obtain ⟨Ahosts, chosts, rfl, hhosts⟩ := rd_list hhosts
  obtain ⟨Apods, cpods, rfl, hpods⟩ := rd_list hpods
  obtain ⟨rfl, rfl, hweightspack, hweightsspread, hweightssoft⟩ := rd_Weights hweights
  exact ⟨Ahosts, chosts, _, Apods, cpods, _, rfl, by simp, hhosts, hpods, hnext, hweightspack, hweightsspread, hweightssoft⟩
structure Manifest where
  kind : Int
  pod : Pod
  host : Host
instance : Dat Manifest := Dat.iso fun x => (x.kind, x.pod, x.host)
theorem rd_Manifest {w : World} {x : Manifest} {cs : List Value} {F : List Nat} (h : rd w x cs F) : ∃ (Apodlabels : Option Addr) (cpodlabels : Nat) (Fpodlabels : List Nat) (Apodneeds : Option Addr) (cpodneeds : Nat) (Fpodneeds : List Nat) (Apodtolerances : Option Addr) (cpodtolerances : Nat) (Fpodtolerances : List Nat) (Ahostlabels : Option Addr) (chostlabels : Nat) (Fhostlabels : List Nat) (Ahosttaints : Option Addr) (chosttaints : Nat) (Fhosttaints : List Nat), cs = [.int .i64 x.kind, .string x.pod.name, .slice Apodlabels x.pod.labels.length cpodlabels, .int .i64 x.pod.cpu, .int .i64 x.pod.mem, .int .i64 x.pod.rank, .slice Apodneeds x.pod.needs.length cpodneeds, .slice Apodtolerances x.pod.tolerances.length cpodtolerances, .string x.host.name, .slice Ahostlabels x.host.labels.length chostlabels, .int .i64 x.host.cpu, .int .i64 x.host.mem, .int .i64 x.host.slots, .slice Ahosttaints x.host.taints.length chosttaints] ∧ F = Fpodlabels ++ (Fpodneeds ++ (Fpodtolerances ++ (Fhostlabels ++ (Fhosttaints)))) ∧ I64 x.kind ∧ x.pod.name.size ≤ maxLen ∧ Sl w x.pod.labels Apodlabels cpodlabels Fpodlabels ∧ I64 x.pod.cpu ∧ I64 x.pod.mem ∧ I64 x.pod.rank ∧ Sl w x.pod.needs Apodneeds cpodneeds Fpodneeds ∧ Sl w x.pod.tolerances Apodtolerances cpodtolerances Fpodtolerances ∧ x.host.name.size ≤ maxLen ∧ Sl w x.host.labels Ahostlabels chostlabels Fhostlabels ∧ I64 x.host.cpu ∧ I64 x.host.mem ∧ I64 x.host.slots ∧ Sl w x.host.taints Ahosttaints chosttaints Fhosttaints := by
  obtain ⟨_, _, _, _, rfl, rfl, ⟨rfl, rfl, hkind⟩, _, _, _, _, rfl, rfl, hpod, hhost⟩ := h
  obtain ⟨Apodlabels, cpodlabels, Fpodlabels, Apodneeds, cpodneeds, Fpodneeds, Apodtolerances, cpodtolerances, Fpodtolerances, rfl, rfl, hpodname, hpodlabels, hpodcpu, hpodmem, hpodrank, hpodneeds, hpodtolerances⟩ := rd_Pod hpod
  obtain ⟨Ahostlabels, chostlabels, Fhostlabels, Ahosttaints, chosttaints, Fhosttaints, rfl, rfl, hhostname, hhostlabels, hhostcpu, hhostmem, hhostslots, hhosttaints⟩ := rd_Host hhost
  exact ⟨Apodlabels, cpodlabels, _, Apodneeds, cpodneeds, _, Apodtolerances, cpodtolerances, _, Ahostlabels, chostlabels, _, Ahosttaints, chosttaints, _, rfl, by simp, hkind, hpodname, hpodlabels, hpodcpu, hpodmem, hpodrank, hpodneeds, hpodtolerances, hhostname, hhostlabels, hhostcpu, hhostmem, hhostslots, hhosttaints⟩
structure Fault where
  code : Int
  at_ : Int
  path : ByteArray
instance : Dat Fault := Dat.iso fun x => (x.code, x.at_, x.path)
theorem rd_Fault {w : World} {x : Fault} {cs : List Value} {F : List Nat} (h : rd w x cs F) : cs = [.int .i64 x.code, .int .i64 x.at_, .string x.path] ∧ F = [] ∧ I64 x.code ∧ I64 x.at_ ∧ x.path.size ≤ maxLen := by
  obtain ⟨_, _, _, _, rfl, rfl, ⟨rfl, rfl, hcode⟩, _, _, _, _, rfl, rfl, ⟨rfl, rfl, hat_⟩, ⟨rfl, rfl, hpath⟩⟩ := h
  exact ⟨rfl, by simp, hcode, hat_, hpath⟩
theorem rd_Fault_mk (w : World) (x : Fault) (hcode : I64 x.code) (hat_ : I64 x.at_) (hpath : x.path.size ≤ maxLen) : rd w x [.int .i64 x.code, .int .i64 x.at_, .string x.path] [] := ⟨_, _, _, _, rfl, rfl, ⟨rfl, rfl, hcode⟩, _, _, _, _, rfl, rfl, ⟨rfl, rfl, hat_⟩, ⟨rfl, rfl, hpath⟩⟩
end Go.Proofs.Ytkgajoichmnaaaa
