/- Plain: what is so of a programme that is valid; the benefit of an inspection, without bounds. -/
import Derived.Test.YtdeeekgohhkdbaaGreatDoorRq
namespace Go.Proofs.YtdeeekgohhkdbaaGreatDoor
structure DW (p:TRoProgramme):Prop where
 al:p.Assets.length<=6
 bl:p.Budgets.length<=3
 first:0<=p.First/\p.First<=40000
 days:1<=p.Days/\p.Days<=4000
 bud:∀ n∈p.Budgets,0<=n/\n<=10000000
 ass:∀ x∈p.Assets,(0<=x.Cost/\x.Cost<=1000000)/\(0<=x.Rate/\x.Rate<=1000)/\(0<=x.Harm/\x.Harm<=10000000)/\(0<=x.Last/\x.Last<=p.First)
end Go.Proofs.YtdeeekgohhkdbaaGreatDoor
