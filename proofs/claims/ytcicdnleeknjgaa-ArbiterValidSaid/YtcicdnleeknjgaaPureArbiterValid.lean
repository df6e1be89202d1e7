/- The law ArbiterValid, as the printed row asks it: proved in YtcicdnleeknjgaaMyArbL1. -/
import Derived.Test.YtcicdnleeknjgaaMyArbL1
